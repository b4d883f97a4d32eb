/- A part of the proofs of the Top laws. -/
import Derived.Deep.Cut
import Derived.Deep.CutRange
import Derived.Test.YthomjcjnalfipaaGreatDoorRows
import Derived.ProofKit
import Derived.OpenShut
import Derived.ChangeOld
import Derived.Deep.Fields
import Derived.Test.YthomjcjnalfipaaGreatDoorYB40
set_option linter.all false
set_option maxRecDepth 100000
set_option maxHeartbeats 1600000
open Go.Lib (hid)
namespace Go.Proofs.YthomjcjnalfipaaGreatDoor
open Go.RowKit Go.Maps Go.WideMaps Go.ChangeMaps
abbrev PC:=ByteArray×Option Addr×Nat×Nat
def RevP (w:World) (g off n:Nat) (news:List PC) (k:Nat):Prop:=∀ (j:Nat) (p:PC),j<n->news[rho n k j]? =some p->w.cell? ⟨g,off+j*2,none⟩=some (.string p.1)/\w.cell? ⟨g,off+j*2+1,none⟩=some (.slice p.2.1 p.2.2.1 p.2.2.2)
theorem RevP.step {w:World} {g off n k:Nat} {news:List PC} {p1 p2:PC} (h:RevP w g off n news k) (hk:k<n-1-k) (h1:news[k]? =some p1) (h2:news[n-1-k]? =some p2) :
  RevP ((((w.setCell ⟨g,off+k*2,none⟩ (.string p2.1)).setCell ⟨g,off+k*2+1,none⟩ (.slice p2.2.1 p2.2.2.1 p2.2.2.2)).setCell ⟨g,off+(n-1-k)*2,none⟩ (.string p1.1)).setCell ⟨g,off+(n-1-k)*2+1,none⟩ (.slice p1.2.1 p1.2.2.1 p1.2.2.2)) g off n news (k+1):=by
 intro j p hj hp;by_cases e1:j=n-1-k
 ·subst e1;have:rho n (k+1) (n-1-k)=k:=by unfold rho;rw[if_pos (by omega)];omega
  rw[this,h1] at hp;cases hp
  obtain⟨c1,c2⟩:=h (n-1-k) p2 hj (by have:rho n k (n-1-k)=n-1-k:=by unfold rho;rw[if_neg (by omega)]
                                     rw[this];exact h2)
  exact⟨set_other (set_same (set_other (set_other c1 (by omega)) (by omega))) (by omega),set_same (set_other (set_other (set_other c2 (by omega)) (by omega)) (by omega))⟩
 ·by_cases e2:j=k
  ·subst e2;have:rho n (j+1) j=n-1-j:=by unfold rho;rw[if_pos (by omega)]
   rw[this,h2] at hp;cases hp
   obtain⟨c1,c2⟩:=h j p1 hj (by have:rho n j j=j:=by unfold rho;rw[if_neg (by omega)]
                                rw[this];exact h1)
   exact⟨set_other (set_other (set_other (set_same c1) (by omega)) (by omega)) (by omega),set_other (set_other (set_same (set_other c2 (by omega))) (by omega)) (by omega)⟩
  ·obtain⟨c1,c2⟩:=h j p hj (by
    have:rho n k j=rho n (k+1) j:=by
     unfold rho;by_cases hz:j<k\/n-k<=j
     ·rw[if_pos hz,if_pos (by omega)]
     ·rw[if_neg hz,if_neg (by omega)]
    rw[this];exact hp)
   exact⟨set_other (set_other (set_other (set_other c1 (by omega)) (by omega)) (by omega)) (by omega),set_other (set_other (set_other (set_other c2 (by omega)) (by omega)) (by omega)) (by omega)⟩
theorem RevP.all {w:World} {g off n k:Nat} {news:List PC} (h:RevP w g off n news k) (hk:n<=2*k+1):∀ (j:Nat) (p:PC),j<n->news[n-1-j]? =some p->w.cell? ⟨g,off+j*2,none⟩=some (.string p.1)/\w.cell? ⟨g,off+j*2+1,none⟩=some (.slice p.2.1 p.2.2.1 p.2.2.2):=by
 intro j p hj hp;refine h j p hj ?_
 have:rho n k j=n-1-j:=by
  unfold rho;by_cases hz:j<k\/n-k<=j
  ·rw[if_pos hz]
  ·rw[if_neg hz];omega
 rw[this];exact hp
theorem pass_cells {ok:Nat->Prop} {w:World} {b off:Nat}:∀ {l:List Pas} {m:Nat},(∀ k x,l[k]? =some x->∃ vs,rPas ok w vs x/\∀ j u,vs[j]? =some u->w.cell? ⟨b,off+(m+k)*2+j,none⟩=some u) ->
  ∃ news:List PC,news.length=l.length/\∀ k x,l[k]? =some x->∃ p:PC,news[k]? =some p/\rPas ok w [.string p.1,.slice p.2.1 p.2.2.1 p.2.2.2] x/\w.cell? ⟨b,off+(m+k)*2,none⟩=some (.string p.1)/\w.cell? ⟨b,off+(m+k)*2+1,none⟩=some (.slice p.2.1 p.2.2.1 p.2.2.2)
 | [],m,_=>⟨[],rfl,fun k x h=>by simp at h⟩
 | x::l,m,h=>by
  obtain⟨vs,⟨A,n,c,rfl,hr⟩,hc⟩:=h 0 x rfl
  obtain⟨news,h1,h2⟩:=pass_cells (l:=l) (m:=m+1) (fun k y hy=>by
   obtain⟨vs,a,b⟩:=h (k+1) y (by simpa using hy)
   exact⟨vs,a,fun j u hu=>by have:=b j u hu;rwa [show m+1+k=m+(k+1) by omega]⟩)
  refine⟨(x.name,A,n,c)::news,by simp[h1],fun k y hy=>?_⟩
  match k,hy with
  | 0,hy=>cases hy;exact⟨_,rfl,⟨A,n,c,rfl,hr⟩,by simpa using hc 0 _ rfl,by simpa using hc 1 _ rfl⟩
  | k+1,hy=>
   obtain⟨p,a,b,c1,c2⟩:=h2 k y (by simpa using hy);rw[show m+1+k=m+(k+1) by omega] at c1 c2;exact⟨p,by simpa using a,b,c1,c2⟩
theorem ReverseP_any {okk ok:Nat->Prop} (A:Option Addr) (n c:Nat) (l:List Pas) (w a:World) (h:SlR (rPas okk) 2 ok w A n c l) (hn:n<=60000) (hA:∀ g off,A=some ⟨g,off,none⟩->¬ okk g/\(∀ i,w.frozen? ⟨g,i,none⟩=false)/\a.heap.size<=g) (ha:Ext a w) :
  Calls Tryz.prog 88 #[.slice A n c] w fun e w'=>e=.returned (.tuple #[])/\SlR (rPas okk) 2 ok w' A n c l.reverse/\Ext a w'/\(∀ P:Nat->Prop,(∀ g off,A=some ⟨g,off,none⟩->¬ P g)->Agree P w w')/\w.heap.size<=w'.heap.size:=by
 have hcap:=h.cap;have hmx:=h.max;unfold maxLen at hmx;by_cases hz:n=0
 ·have hl:l=[]:=List.eq_nil_of_length_eq_zero (by rw[h.len];exact hz);subst hl;subst hz;have H:=hid h;clear h hA;go_enter Tryz.func88,Tryz.ntmps88;go_wp2;go_loop [2,3] (fun u v=>u=.int .i64 0/\v=.int .i64 (-1)) (fun _ _=>0);case atStart=>exact⟨rfl,rfl⟩
  case round=>
   obtain⟨rfl,rfl⟩:=hrel;go_wp2;go_end0;exact⟨rfl,H.out,ha,fun _ _=>Agree.refl _ _,Nat.le_refl _⟩
 ·obtain⟨x0,hx0⟩:=h.idx (k:=0) (by omega);obtain⟨b,off,vs0,rfl,hob,_⟩:=h.at_ 0 x0 hx0;obtain⟨g1,g2,g3⟩:=hA b off rfl
  obtain⟨news,hnl,hen⟩:=pass_cells (ok:=okk) (w:=w) (b:=b) (off:=off) (l:=l) (m:=0) (fun k x hx=>by
   obtain⟨b',off',vs,e,_,_,r,hc⟩:=h.at_ k x hx;cases e
   exact⟨vs,r,fun j u hu=>by have:=hc j u hu;simpa using this⟩)
  have R0:RevP w b off n news 0:=fun j p hj hp=>by
   have:rho n 0 j=j:=by unfold rho;rw[if_neg (by omega)]
   rw[this] at hp;obtain⟨y,hy⟩:=h.idx hj;obtain⟨p',a1,_,a2,a3⟩:=hen j y hy;rw[hp] at a1;cases a1;simp only[Nat.zero_add] at a2 a3;exact⟨a2,a3⟩
  have hform:∀ j,j<n->∃ p,news[j]? =some p:=fun j hj=>by
   obtain⟨y,hy⟩:=h.idx hj;obtain⟨p,a1,_⟩:=hen j y hy;exact⟨p,a1⟩
  have HE:=hid hen;have H:=hid h;have HF:=hid hform;have HR0:=hid R0;clear hx0 hA hen h hform hnl R0;go_enter Tryz.func88,Tryz.ntmps88;go_wp2;go_loopw [2,3] (fun u v wr=>∃ k:Nat,2*k<=n/\u=.int .i64 k/\v=.int .i64 ((n:Int)-1-k)/\Hid (RevP wr b off n news k)/\Hid (∀ i,wr.frozen? ⟨b,i,none⟩=false)/\Agree (fun x=>x≠b) w wr/\Ext a wr/\Hid (w.heap.size<=wr.heap.size)) (fun u _ _=>n-(intOf u).toNat);case atStart=>exact⟨0,by omega,rfl,by simp,HR0,g2,Agree.refl _ _,ha,Nat.le_refl _⟩
  case round=>
   clear HR0;obtain⟨k,hkn,rfl,rfl,hr,hf,hag,hx,hsz⟩:=hrel;by_cases hlt:k<n-1-k
   ·obtain⟨p1,hu1⟩:=HF.out k (by omega);obtain⟨p2,hu2⟩:=HF.out (n-1-k) (by omega)
    obtain⟨z1,y1⟩:=hr.out k _ (by omega) (by
     have:rho n k k=k:=by unfold rho;rw[if_neg (by omega)]
     rw[this];exact hu1)
    obtain⟨z2,y2⟩:=hr.out (n-1-k) _ (by omega) (by
     have:rho n k (n-1-k)=n-1-k:=by unfold rho;rw[if_neg (by omega)]
     rw[this];exact hu2)
    have HS:=hid (hr.out.step hlt hu1 hu2);have fz:=hf.out;clear hu1 hu2 g2;have b1:(0:Int)<=(k:Int):=by omega
    have b2:(0:Int)<=(n:Int)-1-k:=by omega
    have b3:(n:Int)-1-k<n:=by omega
    have b4:(k:Int)<n:=by omega
    have b5:((n:Int)-1-k).toNat=n-1-k:=by omega
    have b6:decide ((k:Int)<(n:Int)-1-k)=true:=by simp;omega
    have b7:(k:Int)<=(n:Int)-1:=by omega
    obtain⟨m,hm⟩:∃ m,n-1-k=m:=⟨_,rfl⟩
    rw[hm] at b5 z2 y2 HS;have b8:off+m*2≠off+k*2:=by omega
    have b9:off+k*2≠off+m*2:=by omega
    have b10:off+m*2≠off+k*2+1:=by omega
    have b11:off+k*2+1≠off+m*2:=by omega
    have b12:off+m*2+1≠off+k*2:=by omega
    have b13:off+k*2≠off+m*2+1:=by omega
    have b14:off+m*2+1≠off+k*2+1:=by omega
    have b15:off+k*2+1≠off+m*2+1:=by omega
    go_wp2;go_region;go_wp2;go_roundw
    case rel=>
     refine⟨k+1,by omega,by go_num,by congr 1;omega,(fun j u hj hu=>HS.out j u hj hu),(fun i=>?_),fun x hx' hl=>?_,(ext_set (ext_set (ext_set (ext_set hx g3 _ _) g3 _ _) g3 _ _) g3 _ _).drew,?_⟩
     ·show World.frozen? ((((wr.setCell _ _).setCell _ _).setCell _ _).setCell _ _) _=_;rw[World.frozen?_setCell,World.frozen?_setCell,World.frozen?_setCell,World.frozen?_setCell];exact fz i
     ·exact (Below.heap_setCell _ _ _ _ hx').trans ((Below.heap_setCell _ _ _ _ hx').trans ((Below.heap_setCell _ _ _ _ hx').trans ((Below.heap_setCell _ _ _ _ hx').trans (hag x hx' hl))))
     ·show _<=((((wr.setCell _ _).setCell _ _).setCell _ _).setCell _ _).heap.size;rw[size_set,size_set,size_set,size_set];exact hsz.out
    case measure=>simp[intOf];omega
   ·have b6:decide ((k:Int)<(n:Int)-1-k)=false:=by simp;omega
    go_wp2;go_end0;refine⟨rfl,⟨by simpa using H.out.len,H.out.cap,H.out.max,fun j x hj=>?_⟩,hx,fun P hP=>hag.mono fun y hy e=>hP b off rfl (e▸hy),hsz.out⟩;have hjn:j<n:=by have:=lt_of_get hj;rw[List.length_reverse,H.out.len] at this;exact this
    rw[List.getElem?_reverse (by rw[H.out.len];exact hjn),H.out.len] at hj;obtain⟨p,v1,v2,_⟩:=HE.out _ x hj;refine⟨b,off,_,rfl,hob,rfl,keep_pas okk _ _ _ _ (hag.mono fun y hy e=>g1 (e▸hy)) v2,fun i u hu=>?_⟩;obtain⟨q1,q2⟩:=hr.out.all (by omega) j p hjn v1
    match i,hu with
    | 0,hu=>simp at hu;subst hu;simpa using q1
    | 1,hu=>simp at hu;subst hu;simpa using q2
theorem lookV_no {v:Vars} {s:ByteArray} (h:lookV v s=none):∀ p∈v,p.1≠s:=by
 unfold lookV at h;rw[Option.map_eq_none_iff,List.find?_eq_none] at h;intro p hp e;exact h p hp (by simpa using e)
theorem VarsAt.put {ok:Nat->Prop} {W:World} {b:Nat} {vs:Vars} (h:VarsAt ok W b vs) {s:ByteArray} (hs:s.size<=maxLen) (hno:lookV vs s=none) (hb:¬ ok b) {A:Option Addr} {n c:Nat} {t:List Sp} (ht:SlR rSpan 2 ok W A n c t) :
  ∃ w',(Instr.mapUpdate 152 (.map (some b)) (.string s) (.slice A n c)).run Tryz.prog W=.ok () w'/\VarsAt ok w' b (vs++[(s,t)])/\W.grownBy w' (some b):=by
 obtain⟨kv,h1,h2,h3⟩:=h.map;have hne:=lookV_no hno
 obtain⟨w',hr,hm,hg⟩:=h1.store lawS Tryz.underlying152 (VarsAt.keys h.sz h2 h3) (keyS hs) (fun p hp e=>by
  obtain⟨i,hi⟩:=List.getElem?_of_mem hp;have hlt:=lt_of_get hi;obtain⟨⟨s',t'⟩,hv⟩:∃ x,vs[i]? =some x:=⟨_,List.getElem?_eq_getElem (by omega)⟩
  obtain⟨A',n',c',e3,_⟩:=h3 i s' t' hv;rw[hi] at e3;cases e3;have e':s'=s:=by simpa using e
  exact hne (s',t') (List.mem_of_getElem? hv) e') (.slice A n c)
 have ha:Agree ok W w':=grown_agree hg (fun g e hk=>by cases e;exact hb hk);refine⟨w',hr,⟨?_,?_,_,hm,by simp[h2],fun i s' t' hi=>?_⟩,hg⟩
 ·rw[List.map_append,List.nodup_append];refine⟨h.nd,by simp,fun x hx y hy e=>?_⟩;obtain⟨p,hp,rfl⟩:=List.mem_map.1 hx;simp at hy;exact hne p hp (e.trans hy)
 ·intro p hp;rcases List.mem_append.1 hp with hp | hp
  ·exact h.sz p hp
  ·simp at hp;rw[hp];exact hs
 ·by_cases hlt:i<vs.length
  ·rw[List.getElem?_append_left hlt] at hi;obtain⟨A',n',c',e3,h4⟩:=h3 i s' t' hi;exact⟨A',n',c',by rw[List.getElem?_append_left (by omega)];exact e3,h4.keep (keep_span _) ha⟩
  ·rw[List.getElem?_append_right (by omega)] at hi;have hi0:i-vs.length=0:=by have:=lt_of_get hi;simp at this;omega
   rw[hi0] at hi;simp at hi;obtain⟨rfl,rfl⟩:=hi;refine⟨A,n,c,?_,ht.keep (keep_span _) ha⟩;rw[List.getElem?_append_right (by omega),h2,hi0];rfl
theorem Vr.new (w:World) (v:Value) (t:TypeId):Vr (w.alloc (.cells #[v] t)) w.heap.size v:=⟨cell_new _ _ _ 0 _ rfl,by simp,by simp⟩
theorem Four.start (base:Nat) (w:World):Four bot base w (.slice none 0 0) (.slice none 0 0) (.slice none 0 0) (.slice none 0 0) [] [] [] []:=
 ⟨OwnR.nil _ _ _ _ _,OwnR.nil _ _ _ _ _,OwnR.nil _ _ _ _ _,OwnR.nil _ _ _ _ _,fun i h=>h.elim,fun g hg=>(by cases hg),fun g hg=>(by cases hg),fun g hg=>(by cases hg),fun g hg=>(by cases hg),fun g hg=>(by cases hg),fun g hg=>(by cases hg),fun g hg=>(by cases hg),fun g hg=>(by cases hg),fun g hg=>(by cases hg),fun g hg=>(by cases hg)⟩
theorem wpList_put {ok:Nat->Prop} {W:World} {b:Nat} {vs:Vars} (h:VarsAt ok W b vs) {s:ByteArray} (hs:s.size<=maxLen) (hno:lookV vs s=none) (hb:¬ ok b) {A:Option Addr} {n c:Nat} {t:List Sp} (ht:SlR rSpan 2 ok W A n c t)
  {ops:Array Oper} {rest:List Oper} {o:Oper} {a:Act} {Q:Exit->Act->World->Prop} (hg:o.guard=none) (m x v:Operand) (hop:o.op=Op.mapUpdate 152 m x v) (hm:a.eval m=.map (some b)) (hx:a.eval x=.string s) (hv:a.eval v=.slice A n c)
  (hK:∀ w',VarsAt ok w' b (vs++[(s,t)])->W.grownBy w' (some b)->wpList Tryz.prog ops Q rest (a.put o.dst undef) w'):wpList Tryz.prog ops Q (o::rest) a W:=by
 refine wpList_plain hg fun K' hK'=>?_;obtain⟨w',hrun,r1,r2⟩:=h.put hs hno hb ht;unfold Oper.wp;simp[execOp,hop,hm,hx,hv,hrun,Result.andThen];exact hK' _ _ (hK w' r1 r2)
structure ScV (W:World) (b:Nat) (s1:Bool) (A1:Option Addr) (n1 c1:Nat) (A2:Option Addr) (n2 c2:Nat):Prop where
 h0:W.cell? ⟨b,0,none⟩=some (.bool s1)
 h1:W.cell? ⟨b,1,none⟩=some (.slice A1 n1 c1)
 h2:W.cell? ⟨b,2,none⟩=some (.slice A2 n2 c2)
 fz:∀ i,W.frozen? ⟨b,i,none⟩=false
 lt:b<W.heap.size/\b≠W.heap.size
section
variable {W W' w : World} {b b' : Nat} {s1 : Bool} {A1 : Option Addr} {n1 c1 : Nat} {A2 : Option Addr} {n2 c2 : Nat}
theorem ScV.keep (h:ScV W b s1 A1 n1 c1 A2 n2 c2) (hb:W'.heap[b]? =W.heap[b]?) (hs:W.heap.size<=W'.heap.size):ScV W' b s1 A1 n1 c1 A2 n2 c2:=
 ⟨(World.cell?_of_block hb).trans h.h0,(World.cell?_of_block hb).trans h.h1,(World.cell?_of_block hb).trans h.h2,fun i=>by have:=h.fz i;simp only[World.frozen?] at this ⊢;rw[hb];exact this,by have:=h.lt;omega⟩
theorem ScV.ext (h:ScV W b s1 A1 n1 c1 A2 n2 c2) (e:Ext W W'):ScV W' b s1 A1 n1 c1 A2 n2 c2:=h.keep (e.block h.lt.1) e.size
theorem ScV.agree (h:ScV W b s1 A1 n1 c1 A2 n2 c2) {ok:Nat->Prop} (e:Agree ok W W') (hb:ok b) (hs:W.heap.size<=W'.heap.size):ScV W' b s1 A1 n1 c1 A2 n2 c2:=h.keep (e b hb h.lt.1) hs
theorem ScV.off (h:ScV W b s1 A1 n1 c1 A2 n2 c2) (hb:b≠b') (o:Nat) (v:Value):ScV (W.setCell ⟨b',o,none⟩ v) b s1 A1 n1 c1 A2 n2 c2:=h.keep (heap_setB hb) (by rw[size_set];exact Nat.le_refl _)
theorem ScV.set0 (h:ScV W b s1 A1 n1 c1 A2 n2 c2) (X:Bool):ScV (W.setCell ⟨b,0,none⟩ (.bool X)) b X A1 n1 c1 A2 n2 c2:=
 ⟨set_same h.h0,set_other h.h1 (by omega),set_other h.h2 (by omega),fun i=>by rw[World.frozen?_setCell];exact h.fz i,by rw[size_set];exact h.lt⟩
theorem ScV.set1 (h:ScV W b s1 A1 n1 c1 A2 n2 c2) (AX:Option Addr) (nX cX:Nat):ScV (W.setCell ⟨b,1,none⟩ (.slice AX nX cX)) b s1 AX nX cX A2 n2 c2:=
 ⟨set_other h.h0 (by omega),set_same h.h1,set_other h.h2 (by omega),fun i=>by rw[World.frozen?_setCell];exact h.fz i,by rw[size_set];exact h.lt⟩
theorem ScV.set2 (h:ScV W b s1 A1 n1 c1 A2 n2 c2) (AX:Option Addr) (nX cX:Nat):ScV (W.setCell ⟨b,2,none⟩ (.slice AX nX cX)) b s1 A1 n1 c1 AX nX cX:=
 ⟨set_other h.h0 (by omega),set_other h.h1 (by omega),set_same h.h2,fun i=>by rw[World.frozen?_setCell];exact h.fz i,by rw[size_set];exact h.lt⟩
theorem ScV.new (w:World) (s1:Bool) (A1:Option Addr) (n1 c1:Nat) (A2:Option Addr) (n2 c2:Nat) (t:TypeId):ScV (w.alloc (.cells #[.bool s1,.slice A1 n1 c1,.slice A2 n2 c2] t)) w.heap.size s1 A1 n1 c1 A2 n2 c2:=by
 constructor <;> first | exact cell_new _ _ _ _ _ rfl | simp
theorem wpList_store_ScV {s1':Bool} {A1':Option Addr} {n1' c1':Nat} {A2':Option Addr} {n2' c2':Nat} {ops:Array Oper} {rest:List Oper} {o:Oper} {a:Act} {Q:Exit->Act->World->Prop} (h:ScV W b s1 A1 n1 c1 A2 n2 c2) (hg:o.guard=none) (x v:Operand) (hop:o.op=Op.store 26 x v) (hx:a.eval x=.pointer (some ⟨b,0,none⟩)) (hv:a.eval v=.agg #[.bool s1',.slice A1' n1' c1',.slice A2' n2' c2'])
  (hK:∀ wF,ScV wF b s1' A1' n1' c1' A2' n2' c2'->Agree (fun i=>i≠b) W wF->W.heap.size=wF.heap.size->(∀ u:World,u.heap.size<=b->Ext u W->Ext u wF)->wpList Tryz.prog ops Q rest (a.put o.dst undef) wF):wpList Tryz.prog ops Q (o::rest) a W:=by
 refine wpList_plain hg fun K' hK'=>?_;have F:=(((h.set0 s1').set1 A1' n1' c1').set2 A2' n2' c2')
 obtain⟨t0,t1,t2,tz,tl⟩:=h
 have hrun:(Instr.storeAt 26 (.pointer (some ⟨b,0,none⟩)) (.agg #[.bool s1',.slice A1' n1' c1',.slice A2' n2' c2'])).run Tryz.prog W=.ok () (((W.setCell ⟨b,0,none⟩ (.bool s1')).setCell ⟨b,1,none⟩ (.slice A1' n1' c1')).setCell ⟨b,2,none⟩ (.slice A2' n2' c2')):=by
  simp[go_sem,t0,t1,t2,tl,tz]
 unfold Oper.wp;simp[execOp,hop,hx,hv,hrun,Result.andThen];refine hK' _ _ (hK _ F (fun i hi hlt=>?_) ?_ (fun u hu e=>?_))
 ·simp only[heap_setB hi]
 ·simp only[size_set]
 ·exact (((e.setCell (p:=⟨b,0,none⟩) hu (.bool s1')).setCell (p:=⟨b,1,none⟩) hu (.slice A1' n1' c1')).setCell (p:=⟨b,2,none⟩) hu (.slice A2' n2' c2'))
end
structure FaV (W:World) (b:Nat) (e1:Int) (i1:Int):Prop where
 h0:W.cell? ⟨b,0,none⟩=some (.int .i64 e1)
 h1:W.cell? ⟨b,1,none⟩=some (.int .i64 i1)
 fz:∀ i,W.frozen? ⟨b,i,none⟩=false
 lt:b<W.heap.size/\b≠W.heap.size
section
variable {W W' w : World} {b b' : Nat} {e1 : Int} {i1 : Int}
theorem FaV.keep (h:FaV W b e1 i1) (hb:W'.heap[b]? =W.heap[b]?) (hs:W.heap.size<=W'.heap.size):FaV W' b e1 i1:=
 ⟨(World.cell?_of_block hb).trans h.h0,(World.cell?_of_block hb).trans h.h1,fun i=>by have:=h.fz i;simp only[World.frozen?] at this ⊢;rw[hb];exact this,by have:=h.lt;omega⟩
theorem FaV.ext (h:FaV W b e1 i1) (e:Ext W W'):FaV W' b e1 i1:=h.keep (e.block h.lt.1) e.size
theorem FaV.agree (h:FaV W b e1 i1) {ok:Nat->Prop} (e:Agree ok W W') (hb:ok b) (hs:W.heap.size<=W'.heap.size):FaV W' b e1 i1:=h.keep (e b hb h.lt.1) hs
theorem FaV.off (h:FaV W b e1 i1) (hb:b≠b') (o:Nat) (v:Value):FaV (W.setCell ⟨b',o,none⟩ v) b e1 i1:=h.keep (heap_setB hb) (by rw[size_set];exact Nat.le_refl _)
theorem FaV.set0 (h:FaV W b e1 i1) (X:Int):FaV (W.setCell ⟨b,0,none⟩ (.int .i64 X)) b X i1:=
 ⟨set_same h.h0,set_other h.h1 (by omega),fun i=>by rw[World.frozen?_setCell];exact h.fz i,by rw[size_set];exact h.lt⟩
theorem FaV.set1 (h:FaV W b e1 i1) (X:Int):FaV (W.setCell ⟨b,1,none⟩ (.int .i64 X)) b e1 X:=
 ⟨set_other h.h0 (by omega),set_same h.h1,fun i=>by rw[World.frozen?_setCell];exact h.fz i,by rw[size_set];exact h.lt⟩
theorem FaV.new (w:World) (e1:Int) (i1:Int) (t:TypeId):FaV (w.alloc (.cells #[.int .i64 e1,.int .i64 i1] t)) w.heap.size e1 i1:=by
 constructor <;> first | exact cell_new _ _ _ _ _ rfl | simp
theorem wpList_store_FaV {e1':Int} {i1':Int} {ops:Array Oper} {rest:List Oper} {o:Oper} {a:Act} {Q:Exit->Act->World->Prop} (h:FaV W b e1 i1) (hg:o.guard=none) (x v:Operand) (hop:o.op=Op.store 34 x v) (hx:a.eval x=.pointer (some ⟨b,0,none⟩)) (hv:a.eval v=.agg #[.int .i64 e1',.int .i64 i1'])
  (hK:∀ wF,FaV wF b e1' i1'->Agree (fun i=>i≠b) W wF->W.heap.size=wF.heap.size->(∀ u:World,u.heap.size<=b->Ext u W->Ext u wF)->wpList Tryz.prog ops Q rest (a.put o.dst undef) wF):wpList Tryz.prog ops Q (o::rest) a W:=by
 refine wpList_plain hg fun K' hK'=>?_;have F:=((h.set0 e1').set1 i1')
 obtain⟨t0,t1,tz,tl⟩:=h
 have hrun:(Instr.storeAt 34 (.pointer (some ⟨b,0,none⟩)) (.agg #[.int .i64 e1',.int .i64 i1'])).run Tryz.prog W=.ok () ((W.setCell ⟨b,0,none⟩ (.int .i64 e1')).setCell ⟨b,1,none⟩ (.int .i64 i1')):=by
  simp[go_sem,t0,t1,tl,tz]
 unfold Oper.wp;simp[execOp,hop,hx,hv,hrun,Result.andThen];refine hK' _ _ (hK _ F (fun i hi hlt=>?_) ?_ (fun u hu e=>?_))
 ·simp only[heap_setB hi]
 ·simp only[size_set]
 ·exact ((e.setCell (p:=⟨b,0,none⟩) hu (.int .i64 e1')).setCell (p:=⟨b,1,none⟩) hu (.int .i64 i1'))
end
structure RdSt (w:World) (M:Nat) (okp ok:Nat->Prop) (wr:World) (rs:RS) (A9:Option Addr) (n9 c9:Nat) (va vb vp vq:Value):Prop where
 sa:ScV wr w.heap.size rs.filt A9 n9 c9 none 0 0
 so:SlR rSpan 2 ok wr A9 n9 c9 rs.only
 sb:ScV wr (w.heap.size+1) false none 0 0 none 0 0
 fa:FaV wr (w.heap.size+1+1) 0 0
 vs:VarsAt okp wr M rs.vars
 v0:Vr wr (M+1) va
 v1:Vr wr (M+1+1) vb
 v2:Vr wr (M+1+1+1) vp
 v3:Vr wr (M+1+1+1+1) vq
 fo:Four ok (M+5) wr va vb vp vq rs.a rs.b rs.ps rs.bs
 x:Ext w wr
 sz:M+5<=wr.heap.size
 ms:w.heap.size+3<=M
theorem RdSt.ext {w:World} {M:Nat} {okp ok:Nat->Prop} {wr wr':World} {rs:RS} {A9:Option Addr} {n9 c9:Nat} {va vb vp vq:Value} (h:RdSt w M okp ok wr rs A9 n9 c9 va vb vp vq) (e:Ext wr wr'):RdSt w M okp ok wr' rs A9 n9 c9 va vb vp vq:=
 ⟨h.sa.ext e,h.so.ext (keep_span _) e,h.sb.ext e,h.fa.ext e,h.vs.ext e,h.v0.ext e,h.v1.ext e,h.v2.ext e,h.v3.ext e,h.fo.ext e,h.x.trans e,Nat.le_trans h.sz e.size,h.ms⟩
theorem rule_lt {ok:Nat->Prop} {w:World} {vs:List Value} {r:Rule} (h:rRuleO ok w vs r):rRuleO (fun b=>ok b/\b<w.heap.size) w vs r:=by
 obtain⟨s,f,A1,n1,c1,A2,n2,c2,A3,n3,c3,A4,n4,c4,k,e,h1,h2,h3,h4,h5,h6,h7,h8⟩:=h;have hin:∀ (vs:List Value) (x:List Sp),rSl rSpan 2 ok w vs x->rSl rSpan 2 (fun b=>ok b/\b<w.heap.size) w vs x:=fun vs x ⟨A,n,c,e,hs⟩=>⟨A,n,c,e,hs.lt (by omega)⟩
 exact⟨s,f,A1,n1,c1,A2,n2,c2,A3,n3,c3,A4,n4,c4,k,e,h1,h2,(h3.lt (by omega)).mono hin (fun b hb=>hb),(h4.lt (by omega)).mono hin (fun b hb=>hb),(h5.lt (by omega)).mono hin (fun b hb=>hb),h6.lt (by omega),h7,h8⟩
theorem rule_one {tk:Nat->Prop} {w:World} {vs:List Value} {r:Rule} (e:TypeId) (h:rRuleO tk w vs r):SlR (rRuleO tk) 7 top (w.alloc (.cells vs.toArray e)) (some ⟨w.heap.size,0,none⟩) 1 1 [r]:=
 SlR.fresh rfl (by unfold maxLen;omega) fun k u hu=>by
  match k,hu with
  | 0,hu=>
   cases hu;refine⟨vs,?_,keep_ruleO tk _ _ _ _ (((Ext.refl w).alloc _).agree tk) h,fun j v hv=>by simpa using hv⟩;obtain⟨s,f,A1,n1,c1,A2,n2,c2,A3,n3,c3,A4,n4,c4,q,e,_⟩:=h;rw[e];rfl
theorem PtBox.keep {W W':World} {b:Nat} {k:Int} {nm:ByteArray} {A:Option Addr} {n c:Nat} {d:Int} {s1 e1:Bool} {A1:Option Addr} {n1 c1:Nat} {A2:Option Addr} {n2 c2:Nat} {A3:Option Addr} {n3 c3:Nat} {q1:Int} {s2 e2:Bool} {A4:Option Addr} {n4 c4:Nat} {A5:Option Addr} {n5 c5:Nat} {A6:Option Addr} {n6 c6:Nat} {q2:Int} (h:PtBox W b k nm A n c d s1 e1 A1 n1 c1 A2 n2 c2 A3 n3 c3 q1 s2 e2 A4 n4 c4 A5 n5 c5 A6 n6 c6 q2) (hb:W'.heap[b]? =W.heap[b]?) (hs:W.heap.size<=W'.heap.size):PtBox W' b k nm A n c d s1 e1 A1 n1 c1 A2 n2 c2 A3 n3 c3 q1 s2 e2 A4 n4 c4 A5 n5 c5 A6 n6 c6 q2:=
 ⟨(World.cell?_of_block hb).trans h.h0,(World.cell?_of_block hb).trans h.h1,(World.cell?_of_block hb).trans h.h2,(World.cell?_of_block hb).trans h.h3,(World.cell?_of_block hb).trans h.h4,(World.cell?_of_block hb).trans h.h5,(World.cell?_of_block hb).trans h.h6,(World.cell?_of_block hb).trans h.h7,(World.cell?_of_block hb).trans h.h8,(World.cell?_of_block hb).trans h.h9,(World.cell?_of_block hb).trans h.h10,(World.cell?_of_block hb).trans h.h11,(World.cell?_of_block hb).trans h.h12,(World.cell?_of_block hb).trans h.h13,(World.cell?_of_block hb).trans h.h14,(World.cell?_of_block hb).trans h.h15,by have:=h.lt;omega⟩
section
variable {w : World} {M : Nat} {okp ok : Nat -> Prop} {wr wr' : World} {rs : RS} {A9 : Option Addr} {n9 c9 : Nat} {va vb vp vq : Value}
theorem RdSt.grow (h:RdSt w M okp ok wr rs A9 n9 c9 va vb vp vq) (e:Ext wr wr'):RdSt w M okp (fun i=>ok i\/(wr.heap.size<=i/\i<wr'.heap.size)) wr' rs A9 n9 c9 va vb vp vq:=by
 have h1:=h.ext e;have hsz:=h.sz;refine⟨h1.sa,h1.so.mono (fun _ _ h=>h) (fun b hb=>.inl hb),h1.sb,h1.fa,h1.vs,h1.v0,h1.v1,h1.v2,h1.v3,h1.fo.more (fun i hi=>⟨by omega,hi.2,fun e=>?_,fun e=>?_,fun e=>?_,fun e=>?_⟩),h1.x,h1.sz,h1.ms⟩
 ·have:=(h.fo.ra.lt i e).2;omega
 ·have:=(h.fo.rb.lt i e).2;omega
 ·have:=(h.fo.rp.lt i e).2;omega
 ·have:=(h.fo.rq.lt i e).2;omega
theorem RdSt.grow2 (h:RdSt w M okp ok wr rs A9 n9 c9 va vb vp vq) (e:Ext wr wr'):∃ ok2:Nat->Prop,(∀ i,ok i->ok2 i)/\(∀ i,wr.heap.size<=i->i<wr'.heap.size->ok2 i)/\RdSt w M okp ok2 wr' rs A9 n9 c9 va vb vp vq:=⟨_,fun i h=>.inl h,fun i h1 h2=>.inr ⟨h1,h2⟩,h.grow e⟩
theorem RdSt.base (h:RdSt w M okp ok wr rs A9 n9 c9 va vb vp vq):w.heap.size+3<=M/\M+5<=wr.heap.size:=⟨h.ms,h.sz⟩
theorem RdSt.put (h:RdSt w M okp ok wr rs A9 n9 c9 va vb vp vq) {vs':Vars} (hv:VarsAt okp wr' M vs') (hg:wr.grownBy wr' (some M)):RdSt w M okp ok wr' { rs with vars:=vs' } A9 n9 c9 va vb vp vq:=by
 have hms:=h.ms;have bk:∀ b,b<wr.heap.size->b≠M->wr'.heap[b]? =wr.heap[b]?:=fun b hb hne=>hg.block b hb (fun e=>hne (by cases e;rfl));have hs:=hg.size
 exact⟨h.sa.keep (bk _ h.sa.lt.1 (by omega)) hs,h.so.keep (keep_span _) (fun b hb hl=>bk b hl (by have:=(h.fo.hok b hb).1;omega)),h.sb.keep (bk _ h.sb.lt.1 (by omega)) hs,h.fa.keep (bk _ h.fa.lt.1 (by omega)) hs,hv,
  h.v0.keep (bk _ h.v0.lt.1 (by omega)) hs,h.v1.keep (bk _ h.v1.lt.1 (by omega)) hs,h.v2.keep (bk _ h.v2.lt.1 (by omega)) hs,h.v3.keep (bk _ h.v3.lt.1 (by omega)) hs,
  h.fo.agree (fun b hb hl=>bk b hl (by omega)) hs,h.x.grown hg (fun k hk=>by cases hk;omega),Nat.le_trans h.sz hs,h.ms⟩
theorem RdSt.low {b:Nat} (h:RdSt w M okp ok wr rs A9 n9 c9 va vb vp vq) (hb:w.heap.size<=b/\b<M) (hk:∀ i,okp i->i<w.heap.size) (o:Nat) (v:Value) {rs':RS} {A9':Option Addr} {n9' c9':Nat}
  (ha:ScV (wr.setCell ⟨b,o,none⟩ v) w.heap.size rs'.filt A9' n9' c9' none 0 0) (hso:SlR rSpan 2 ok wr A9' n9' c9' rs'.only) (hsb:ScV (wr.setCell ⟨b,o,none⟩ v) (w.heap.size+1) false none 0 0 none 0 0) (hfa:FaV (wr.setCell ⟨b,o,none⟩ v) (w.heap.size+1+1) 0 0)
  (h1:rs'.vars=rs.vars) (h2:rs'.a=rs.a) (h3:rs'.b=rs.b) (h4:rs'.ps=rs.ps) (h5:rs'.bs=rs.bs):RdSt w M okp ok (wr.setCell ⟨b,o,none⟩ v) rs' A9' n9' c9' va vb vp vq:=by
 have hs:wr.heap.size<=(wr.setCell ⟨b,o,none⟩ v).heap.size:=by rw[size_set];exact Nat.le_refl _
 have bk:∀ i,i≠b->(wr.setCell ⟨b,o,none⟩ v).heap[i]? =wr.heap[i]?:=fun i hi=>heap_setB hi;have hag:Agree ok wr (wr.setCell ⟨b,o,none⟩ v):=fun i hi hl=>bk i (by have:=(h.fo.hok i hi).1;omega)
 refine⟨ha,hso.keep (keep_span _) hag,hsb,hfa,by rw[h1];exact h.vs.keep (bk M (by omega)) (fun i hi hl=>bk i (by have:=hk i hi;omega)),h.v0.off (by omega) _ _,h.v1.off (by omega) _ _,h.v2.off (by omega) _ _,h.v3.off (by omega) _ _,
  by rw[h2,h3,h4,h5];exact h.fo.off (by omega) _ _,h.x.setCell (p:=⟨b,o,none⟩) hb.1 v,Nat.le_trans h.sz hs,h.ms⟩
theorem RdSt.filter (h:RdSt w M okp ok wr rs A9 n9 c9 va vb vp vq) (hk:∀ i,okp i->i<w.heap.size) {A:Option Addr} {n c:Nat} {t:List Sp} (ht:SlR rSpan 2 ok wr A n c t) :
  RdSt w M okp ok ((wr.setCell ⟨w.heap.size,0,none⟩ (.bool true)).setCell ⟨w.heap.size,1,none⟩ (.slice A n c)) { rs with filt:=true,only:=t } A n c va vb vp vq:=by
 have hms:=h.ms
 have g1:RdSt w M okp ok (wr.setCell ⟨w.heap.size,0,none⟩ (.bool true)) { rs with filt:=true } A9 n9 c9 va vb vp vq:=
  h.low (by omega) hk 0 (.bool true) (h.sa.set0 true) h.so (h.sb.off (by omega) _ _) (h.fa.off (by omega) _ _) rfl rfl rfl rfl rfl
 have hag:Agree ok wr (wr.setCell ⟨w.heap.size,0,none⟩ (.bool true)):=fun i hi hl=>heap_setB (by have:=(h.fo.hok i hi).1;omega);exact g1.low (by omega) hk 1 (.slice A n c) (g1.sa.set1 A n c) (ht.keep (keep_span _) hag) (g1.sb.off (by omega) _ _) (g1.fa.off (by omega) _ _) rfl rfl rfl rfl rfl
theorem RdSt.closed (h:RdSt w M okp ok wr rs A9 n9 c9 va vb vp vq) (hk:∀ i,okp i->i<w.heap.size) {vp' vq':Value} {ok':Nat->Prop} (k:∀ i,ok i->ok' i) (hf:Four ok' (M+5) wr' (.slice none 0 0) (.slice none 0 0) vp' vq' [] [] (moreP rs.a rs.ps) (moreP rs.b rs.bs))
  (v0:Vr wr' (M+1) (.slice none 0 0)) (v1:Vr wr' (M+1+1) (.slice none 0 0)) (v2:Vr wr' (M+1+2) vp') (v3:Vr wr' (M+1+3) vq') (ag:Agree (fun b=>ok b\/(b<M+5/\b≠M+1/\b≠M+1+1/\b≠M+1+2/\b≠M+1+3)) wr wr') (hs:wr.heap.size<=wr'.heap.size) (hx:Ext w wr') :
  RdSt w M okp ok' wr' (closeS rs) A9 n9 c9 (.slice none 0 0) (.slice none 0 0) vp' vq':=by
 have hms:=h.ms
 exact⟨h.sa.agree ag (.inr (by omega)) hs,(h.so.keep (keep_span _) (ag.mono fun b hb=>.inl hb)).mono (fun _ _ h=>h) k,h.sb.agree ag (.inr (by omega)) hs,h.fa.agree ag (.inr (by omega)) hs,
  h.vs.keep (ag M (.inr (by omega)) h.vs.lt) (ag.mono fun b hb=>.inr (by have:=hk b hb;omega)),v0,v1,v2,v3,hf,hx,Nat.le_trans h.sz hs,h.ms⟩
theorem RdSt.boxed (h:RdSt w M okp ok wr rs A9 n9 c9 va vb vp vq) (hk:∀ i,okp i->i<w.heap.size) {w2:World} {row:Option Nat} (hg:wr.grownBy w2 row) (hr:∀ g,row=some g->M+5<=g/\¬ ok g) {b:Nat} (hb:M<b/\b<M+5) (x:Value)
  {va' vb' vp' vq':Value} {rs':RS} (F:Four ok (M+5) w2 va' vb' vp' vq' rs'.a rs'.b rs'.ps rs'.bs) (h1:rs'.vars=rs.vars) (h2:rs'.filt=rs.filt) (h3:rs'.only=rs.only)
  (v0:b≠M+1->va'=va) (v0':b=M+1->va'=x) (v1:b≠M+1+1->vb'=vb) (v1':b=M+1+1->vb'=x) (v2:b≠M+1+1+1->vp'=vp) (v2':b=M+1+1+1->vp'=x) (v3:b≠M+1+1+1+1->vq'=vq) (v3':b=M+1+1+1+1->vq'=x) :
  RdSt w M okp ok (w2.setCell ⟨b,0,none⟩ x) rs' A9 n9 c9 va' vb' vp' vq'/\∀ i,i<wr.heap.size->row≠some i->i≠b->(w2.setCell ⟨b,0,none⟩ x).heap[i]? =wr.heap[i]?:=by
 have hms:=h.ms;have hsz:=h.sz;have bk:∀ i,i<wr.heap.size->row≠some i->i≠b->(w2.setCell ⟨b,0,none⟩ x).heap[i]? =wr.heap[i]?:=fun i h1 h2 h3=>(heap_setB h3).trans (hg.block i h1 (fun e=>h2 e.symm));have bl:∀ i,i<M+5->i≠b->(w2.setCell ⟨b,0,none⟩ x).heap[i]? =wr.heap[i]?:=fun i h1 h2=>bk i (by omega) (fun e=>by have:=(hr i e).1;omega) h2;have hs:wr.heap.size<=(w2.setCell ⟨b,0,none⟩ x).heap.size:=by rw[size_set];exact hg.size
 have gr:∀ {c:Nat} {y y':Value},Vr wr c y->c<M+5->(b≠c->y'=y)->(b=c->y'=x)->Vr (w2.setCell ⟨b,0,none⟩ x) c y':=by
  intro c y y' hv hc e1 e2;have hv2:Vr w2 c y:=hv.grown hg (fun e=>by have:=(hr c e).1;omega);by_cases e:b=c
  ·subst e;rw[e2 rfl];exact hv2.set x
  ·rw[e1 e];exact hv2.off (fun e3=>e e3.symm) 0 x
 refine⟨⟨by rw[h2];exact h.sa.keep (bl _ (by omega) (by omega)) hs,by rw[h3];exact h.so.keep (keep_span _) (fun i hi hl=>bk i hl (fun e=>(hr i e).2 hi) (by have:=(h.fo.hok i hi).1;omega)),h.sb.keep (bl _ (by omega) (by omega)) hs,h.fa.keep (bl _ (by omega) (by omega)) hs,
  by rw[h1];exact h.vs.keep (bl M (by omega) (by omega)) (fun i hi hl=>bl i (by have:=hk i hi;omega) (by have:=hk i hi;omega)),gr h.v0 (by omega) v0 v0',gr h.v1 (by omega) v1 v1',gr h.v2 (by omega) v2 v2',gr h.v3 (by omega) v3 v3',F.off (by omega) _ _,
  (h.x.grown hg (fun g hg'=>by have:=(hr g hg').1;omega)).setCell (p:=⟨b,0,none⟩) (by show _<=b;omega) x,Nat.le_trans h.sz hs,h.ms⟩,bk⟩
theorem RdSt.put_a (h:RdSt w M okp ok wr rs A9 n9 c9 va vb vp vq) (hk:∀ i,okp i->i<w.heap.size) {w2:World} {va':Value} {la':List Rule} (o:OwnR (rRuleO ok) 61 7 (M+5) w2 va' la') (hg:wr.grownBy w2 va.ownBlock) (hat:va'.ownBlock=va.ownBlock\/va'.ownBlock=some wr.heap.size) :
  RdSt w M okp ok (w2.setCell ⟨M+1,0,none⟩ va') { rs with a:=la' } A9 n9 c9 va' vb vp vq/\∀ i,i<wr.heap.size->va.ownBlock≠some i->i≠M+1->(w2.setCell ⟨M+1,0,none⟩ va').heap[i]? =wr.heap[i]?:=
 h.boxed hk hg (fun g e=>⟨(h.fo.ra.lt g e).1,h.fo.na g e⟩) (by omega) va' (h.fo.put_a o hg hat) rfl rfl rfl (by omega) (fun _=>rfl) (fun _=>rfl) (by omega) (fun _=>rfl) (by omega) (fun _=>rfl) (by omega)
theorem RdSt.put_b (h:RdSt w M okp ok wr rs A9 n9 c9 va vb vp vq) (hk:∀ i,okp i->i<w.heap.size) {w2:World} {vb':Value} {lb':List Rule} (o:OwnR (rRuleO ok) 61 7 (M+5) w2 vb' lb') (hg:wr.grownBy w2 vb.ownBlock) (hat:vb'.ownBlock=vb.ownBlock\/vb'.ownBlock=some wr.heap.size) :
  RdSt w M okp ok (w2.setCell ⟨M+1+1,0,none⟩ vb') { rs with b:=lb' } A9 n9 c9 va vb' vp vq/\∀ i,i<wr.heap.size->vb.ownBlock≠some i->i≠M+1+1->(w2.setCell ⟨M+1+1,0,none⟩ vb').heap[i]? =wr.heap[i]?:=
 h.boxed hk hg (fun g e=>⟨(h.fo.rb.lt g e).1,h.fo.nb g e⟩) (by omega) vb' (h.fo.put_b o hg hat) rfl rfl rfl (fun _=>rfl) (by omega) (by omega) (fun _=>rfl) (fun _=>rfl) (by omega) (fun _=>rfl) (by omega)
theorem RdSt.put_p (h:RdSt w M okp ok wr rs A9 n9 c9 va vb vp vq) (hk:∀ i,okp i->i<w.heap.size) {w2:World} {vp':Value} {lp':List Pas} (o:OwnR (rPas ok) 42 2 (M+5) w2 vp' lp') (hg:wr.grownBy w2 vp.ownBlock) (hat:vp'.ownBlock=vp.ownBlock\/vp'.ownBlock=some wr.heap.size) :
  RdSt w M okp ok (w2.setCell ⟨M+1+1+1,0,none⟩ vp') { rs with ps:=lp' } A9 n9 c9 va vb vp' vq/\∀ i,i<wr.heap.size->vp.ownBlock≠some i->i≠M+1+1+1->(w2.setCell ⟨M+1+1+1,0,none⟩ vp').heap[i]? =wr.heap[i]?:=
 h.boxed hk hg (fun g e=>⟨(h.fo.rp.lt g e).1,h.fo.np g e⟩) (by omega) vp' (h.fo.put_p o hg hat) rfl rfl rfl (fun _=>rfl) (by omega) (fun _=>rfl) (by omega) (by omega) (fun _=>rfl) (fun _=>rfl) (by omega)
theorem RdSt.put_q (h:RdSt w M okp ok wr rs A9 n9 c9 va vb vp vq) (hk:∀ i,okp i->i<w.heap.size) {w2:World} {vq':Value} {lq':List Pas} (o:OwnR (rPas ok) 42 2 (M+5) w2 vq' lq') (hg:wr.grownBy w2 vq.ownBlock) (hat:vq'.ownBlock=vq.ownBlock\/vq'.ownBlock=some wr.heap.size) :
  RdSt w M okp ok (w2.setCell ⟨M+1+1+1+1,0,none⟩ vq') { rs with bs:=lq' } A9 n9 c9 va vb vp vq'/\∀ i,i<wr.heap.size->vq.ownBlock≠some i->i≠M+1+1+1+1->(w2.setCell ⟨M+1+1+1+1,0,none⟩ vq').heap[i]? =wr.heap[i]?:=
 h.boxed hk hg (fun g e=>⟨(h.fo.rq.lt g e).1,h.fo.nq g e⟩) (by omega) vq' (h.fo.put_q o hg hat) rfl rfl rfl (fun _=>rfl) (by omega) (fun _=>rfl) (by omega) (fun _=>rfl) (by omega) (by omega) (fun _=>rfl)
theorem RdSt.revArgs {Aq:Option Addr} {nq cq:Nat} (h:RdSt w M okp ok wr rs A9 n9 c9 va vb vp (.slice Aq nq cq)) :
  SlR (rPas ok) 2 (fun b=>M+5<=b) wr Aq rs.bs.length cq rs.bs/\(∀ g off,Aq=some ⟨g,off,none⟩->¬ ok g/\(∀ i,wr.frozen? ⟨g,i,none⟩=false)/\w.heap.size<=g):=by
 obtain⟨A',c',e,hs⟩:=h.fo.rq.sl;cases e;refine⟨hs,fun g off e=>?_⟩;obtain⟨h1,h2⟩:=h.fo.rq.free e;exact⟨fun hk=>h.fo.nq g (by rw[e];rfl) hk,h2,by have:=h.ms;omega⟩
theorem RdSt.revPost {Ap:Option Addr} {np cp:Nat} {Aq:Option Addr} {nq cq:Nat} (h:RdSt w M okp ok wr rs A9 n9 c9 va vb (.slice Ap np cp) (.slice Aq nq cq)) (hag:∀ P:Nat->Prop,(∀ g off,Aq=some ⟨g,off,none⟩->¬ P g)->Agree P wr wr') (hs:wr.heap.size<=wr'.heap.size) :
  ScV wr' w.heap.size rs.filt A9 n9 c9 none 0 0/\ScV wr' (w.heap.size+1) false none 0 0 none 0 0/\FaV wr' (w.heap.size+1+1) 0 0/\Vr wr' (M+1+1+1) (.slice Ap np cp)/\Vr wr' (M+1+1+1+1) (.slice Aq nq cq) /\
   SlR rSpan 2 (fun b=>M+5<=b) wr' A9 n9 c9 rs.only/\SlR (rPas (fun b=>M+5<=b)) 2 (fun b=>M+5<=b) wr' Ap rs.ps.length cp rs.ps:=by
 have hms:=h.ms;have hq:∀ g off,Aq=some ⟨g,off,none⟩->M+5<=g/\¬ ok g:=fun g off e=>⟨(h.fo.rq.lt g (by rw[e];rfl)).1,h.fo.nq g (by rw[e];rfl)⟩
 have ag1:Agree (fun b=>b<M+5) wr wr':=hag _ (fun g off e hl=>by have:=(hq g off e).1;omega);have ag2:Agree ok wr wr':=hag _ (fun g off e=>(hq g off e).2);refine⟨h.sa.agree ag1 (by omega) hs,h.sb.agree ag1 (by omega) hs,h.fa.agree ag1 (by omega) hs,h.v2.agree ag1 (by omega) hs,h.v3.agree ag1 (by omega) hs,(h.so.keep (keep_span _) ag2).mono (fun _ _ h=>h) (fun b hb=>(h.fo.hok b hb).1),?_⟩;obtain⟨A',c',e,hsl⟩:=h.fo.rp.slOwn;cases e;have ag3:Agree (fun b=>ok b\/(Value.slice Ap rs.ps.length cp).ownBlock=some b) wr wr':=hag _ (fun g off e hl=>hl.elim (hq g off e).2 (fun e2=>h.fo.dpq g e2 (by rw[e];rfl)));have h1:SlR (rPas ok) 2 (fun b=>ok b\/(Value.slice Ap rs.ps.length cp).ownBlock=some b) wr Ap rs.ps.length cp rs.ps:=hsl.mono (fun _ _ h=>h) (fun b hb=>.inr hb);have h2:SlR (rPas (fun b=>ok b\/(Value.slice Ap rs.ps.length cp).ownBlock=some b)) 2 (fun b=>ok b\/(Value.slice Ap rs.ps.length cp).ownBlock=some b) wr Ap rs.ps.length cp rs.ps:=h1.mono (fun vs x hx=>mono_pas (fun b hb=>.inl hb) hx) (fun b hb=>hb);have hlow:∀ b,(ok b\/(Value.slice Ap rs.ps.length cp).ownBlock=some b)->M+5<=b:=fun b hb=>hb.elim (fun hb=>(h.fo.hok b hb).1) (fun hb=>(h.fo.rp.lt b hb).1);exact (h2.keep (keep_pas _) ag3).mono (fun vs x hx=>mono_pas hlow hx) hlow
end
end Go.Proofs.YthomjcjnalfipaaGreatDoor
