/- The law TopMasked, second form: of texts of 1048576 bytes at most it answers true; arguments stay. -/
import Derived.Lib.QuoteLoop
import Derived.Lib.TrimUEq
import Derived.Test.YthomjcjnalfipaaGreatDoorYB44
set_option linter.all false
set_option maxRecDepth 100000
set_option maxHeartbeats 8000000
open Go.Lib (hid)
namespace Go.Proofs.YthomjcjnalfipaaGreatDoor
open Go.RowKit
theorem keep_setB (B:Nat):Keep (rSl rSpan 2 (fun b=>b<B)) (fun b=>b<B):=keep_sl (keep_span _)
section
variable {w w' : World} {b off : Nat} {s f : Bool} {A1 : Option Addr} {n1 c1 : Nat} {A2 : Option Addr} {n2 c2 : Nat} {A3 : Option Addr} {n3 c3 : Nat} {A4 : Option Addr} {n4 c4 : Nat} {q : Int} {r : Rule}
theorem RuleAt.new (w:World) (t:TypeId):RuleAt (w.alloc (.cells #[.bool s,.bool f,.slice A1 n1 c1,.slice A2 n2 c2,.slice A3 n3 c3,.slice A4 n4 c4,.int .i64 q] t)) w.heap.size 0 s f A1 n1 c1 A2 n2 c2 A3 n3 c3 A4 n4 c4 q:=
 ⟨cell_new _ _ _ _ _ rfl,cell_new _ _ _ _ _ rfl,cell_new _ _ _ _ _ rfl,cell_new _ _ _ _ _ rfl,cell_new _ _ _ _ _ rfl,cell_new _ _ _ _ _ rfl,cell_new _ _ _ _ _ rfl⟩
end
theorem wrongSets_of:∀ {l:List (List Sp)},okSets l->wrongSets l=0
 | [],_=>rfl
 | s::r,h=>by
  rw[wrongSets_ok (h s (List.mem_cons_self ..))];exact wrongSets_of fun x hx=>h x (List.mem_cons_of_mem _ hx)
theorem wrongSide_of {l:List (List Sp)} (hl:l.length<=20) (h:okSets l):wrongSide l=0:=by
 unfold wrongSide;rw[if_neg (by omega)];exact wrongSets_of h
theorem wrong_of_ok {r:Rule} (h:OkRule r):wrongRule r=0:=by
 have hs:wrongSides [r.before,r.source,r.after]=0:=by
  rw[wrongSides_ok (wrongSide_of h.lb h.b),wrongSides_ok (wrongSide_of h.ls h.s),wrongSides_ok (wrongSide_of h.la h.a)];rfl
 rw[wrongRule_rest hs];unfold wrongRest;have h1:=h.s0;have h2:=h.lt;have h3:=h.c0;have h4:=h.c1;rw[if_neg (by omega),if_neg (by omega),h.tr,if_neg (by simp),if_neg (by omega)]
end Go.Proofs.YthomjcjnalfipaaGreatDoor
namespace Go.Proofs.YthomjcjnalfipaaGreatDoor
open Go.RowKit
theorem zipHas_append:∀ (a b:List (List Sp)) (t:List Int),zipHas (a++b) t=(zipHas a t&&zipHas b (t.drop a.length))
 | [],b,t=>by simp[zipHas]
 | s::a,b,[]=>by cases b <;> simp[zipHas]
 | s::a,b,x::t=>by simp[zipHas,zipHas_append a b t,Bool.and_assoc]
theorem zipHas_len:∀ (l:List (List Sp)) (t:List Int),zipHas l t=true->l.length<=t.length
 | [],t,_=>by simp
 | s::l,[],h=>by simp[zipHas] at h
 | s::l,x::t,h=>by
  simp only[zipHas,Bool.and_eq_true] at h;have:=zipHas_len l t h.2;simp;omega
theorem allAt_nat {t:List Int} {f:Nat} (l:List (List Sp)) (hf:f<=t.length):allAt t f l=zipHas l (t.drop f):=by
 unfold allAt;rw[decide_eq_true (by omega),Int.toNat_natCast];cases hz:zipHas l (t.drop f)
 ·simp
 ·have:=zipHas_len _ _ hz;simp at this;simp;omega
end Go.Proofs.YthomjcjnalfipaaGreatDoor
namespace Go.Proofs.YthomjcjnalfipaaGreatDoor
theorem wrongAt_of:∀ {k:Nat} {l:List Rule},(∀ r∈l,wrongRule r=0)->wrongAt k l=(0,0)
 | _,[],_=>rfl
 | k,r::l,h=>by rw[wrongAt_ok (h r (by simp))];exact wrongAt_of fun x hx=>h x (by simp[hx])
theorem wrongRules_of {l:List Rule} (hl:l.length<=200) (h:∀ r∈l,wrongRule r=0):wrongRules l=(0,0):=by
 rw[wrongRules_small (by omega)];exact wrongAt_of h
end Go.Proofs.YthomjcjnalfipaaGreatDoor
namespace Go.Proofs.YthomjcjnalfipaaGreatDoor
open Go.RowKit
theorem SlR.far {α :Type} {R:World->List Value-> α ->Prop} {sz:Nat} {ok:Nat->Prop} {w:World} {A:Option Addr} {n c:Nat} {l:List α} {H o:Nat} {u:Value} (h:SlR R sz ok w A n c l) (hk:Keep R ok) (hn:∀ b,ok b->b≠H) :
  SlR R sz ok (w.setCell ⟨H,o,none⟩ u) A n c l:=h.keep hk ((agree_set _ _ _ _).mono hn)
section
variable {α : Type} {R : World -> List Value -> α -> Prop}
theorem Clone_set (one:One R) {okk:Nat->Prop} (hk:Keep R okk) (A:Option Addr) (n c:Nat) (l:List α) (w:World) {ok:Nat->Prop} (h:SlR R 1 ok w A n c l) (hb:n*24<=140737488355328) (hd:∀ g,w.heap.size<=g->¬ okk g) :
  Calls Tryz.prog 106 #[.slice A n c] w fun e w'=>∃ v,e=.returned v/\OwnR R 23 1 w.heap.size w' v l/\Ext w w':=by
 have hcap:=h.cap;have hmax:=h.max;have hlen:=h.len;rcases A with _ | ad
 ·have hl:l=[]:=by
   cases hl:l with
   | nil=>rfl
   | cons x r=>obtain⟨b,off,vs,e,_⟩:=h.at_ 0 x (by rw[hl];rfl);cases e
  subst hl;have en:=fun W=>Lib.run_eql_slice_nil (P:=Tryz.prog) W 59 23 none n c 0 0 Tryz.underlying59;go_enter Tryz.func106,Tryz.ntmps106;go_wp2;go_ret;exact⟨_,rfl,OwnR.nil _ _ _ _ _,Ext.refl _⟩
 ·have en:=fun W=>Lib.run_eql_slice_nil (P:=Tryz.prog) W 59 23 (some ad) n c 0 0 Tryz.underlying59;have e1:=(Ext.refl w).alloc (.cells #[] 23);have o1:=OwnR.empty R 23 1 w.heap.size w (Nat.le_refl _);have hs:=h.extX (hk.x) e1;go_enter Tryz.func106,Tryz.ntmps106
  go_wp2_with (at_builtin
               refine wpList_app T_set rfl (.tmp 5) (.tmp 6) rfl rfl o1 rfl hs (fun _ _ h=>h) one hk (fun g hg=>hd g (o1.lt g hg).1) ?_ ?_ e1.size ?_
               ·simpa using hb
               ·simp only[List.length_nil,Nat.zero_add];omega
               intro v1 w1 o2 g1 hat1)
  go_ret;exact⟨v1,rfl,by simpa using o2,e1.app g1 o1⟩
theorem Grow_set (n:Nat) (w:World) (hn:n<=60000) :
  Calls Tryz.prog 108 #[.slice none 0 0,.int .i64 n] w fun e w'=>∃ v,e=.returned v/\OwnR R 23 1 w.heap.size w' v []/\Ext w w':=by
 by_cases hz:n=0
 ·subst hz;go_enter Tryz.func108,Tryz.ntmps108;go_wp2;go_ret;exact⟨_,rfl,OwnR.nil _ _ _ _ _,Ext.refl _⟩
 ·obtain⟨cap,cur,hrun,h1,h2,h3⟩:=run_grow_nil T_set (tn:=3) Tryz.underlying3 59 n w (by omega) hn (by omega);have hs1:=fun W=>run_cut_h T_set (some ⟨w.heap.size,0,none⟩) n cap 0 0 rfl (by omega) W;have hs0:=fun W=>run_cut_h T_set none 0 0 0 0 rfl (by omega) W;have o1:=OwnR.made (R:=R) (base:=w.heap.size) (w:=w.drew) (e:=23) (sz:=1) (Nat.le_refl _) h2 h3;have hr:=hid hrun;clear hrun;go_enter Tryz.func108,Tryz.ntmps108;go_wp2_with (at_builtin;refine Lib.wpList_append_run _ rfl _ _ _ _ rfl _ _ rfl rfl _ _ hr.out ?_);go_ret;exact⟨_,rfl,o1,((Ext.refl w).drew).alloc _⟩
theorem Concat_set (one:One R) {okk:Nat->Prop} (hk:Keep R okk) {ok1 ok2:Nat->Prop} (A:Option Addr) (n c:Nat) (l:List (List α)) (w:World) (h:SlR (rSl R 1 ok1) 1 ok2 w A n c l)
  (hsum:l.flatten.length<=60000) (hd:∀ g,w.heap.size<=g->¬ okk g) :
  Calls Tryz.prog 73 #[.slice A n c] w fun e w'=>∃ v,e=.returned v/\OwnR R 23 1 w.heap.size w' v l.flatten/\Ext w w':=by
 have hcap:=h.cap;have hmax:=h.max;unfold maxLen at hmax;have hlen:=hid h.len;have HS:=hid hsum;clear hsum;go_enter Tryz.func73,Tryz.ntmps73;go_wp2;go_loop [3,11] (fun u i=>∃ k:Nat,k<=n/\i=.int .i64 k/\u=.int .i64 ((l.take k).flatten.length)) (fun _ i=>n-(intOf i).toNat);case atStart=>exact⟨0,by omega,rfl,by simp⟩
 case round=>
  obtain⟨k,hk',rfl,rfl⟩:=hrel;by_cases hlt:k<n
  ·obtain⟨x,hxx⟩:=h.idx hlt;obtain⟨b,off,A',n',c',rfl,_,hc,hsl⟩:=h.sl hxx;have hl2:(l.take (k+1)).flatten.length=(l.take k).flatten.length+n':=by rw[take_snoc hxx];simp[hsl.len]
   have hle:(l.take (k+1)).flatten.length<=60000:=Nat.le_trans (take_flatten_le _) HS.out;have HL:=hid hl2;have hle':(l.take k).flatten.length+n'<=60000:=by omega
   clear hl2 hle hxx;generalize (l.take k).flatten.length=a at *;have hn0:((a:Int)+(n':Int)<0)=False:=by simp;omega
   go_wp2;go_round;case rel=>exact⟨k+1,by omega,by go_num,by rw[HL.out];go_num⟩
   case measure=>simp[intOf];omega
  ·have e:l.take k=l:=take_all hlen.out (by omega);rw[e];have HS':=HS.out;have HG:=hid (Grow_set (R:=R) l.flatten.length w HS');clear HS' e;generalize hz:l.flatten.length=z at *;have HZ:=hid hz;clear hz;go_wp2_with (go_at_call 108;refine HG.out.mono ?_;rintro e w1 ⟨v1,rfl,o1,e1⟩);go_loopw [6,27] (fun u i wr=>∃ k:Nat,k<=n/\i=.int .i64 k/\OwnR R 23 1 w.heap.size wr u (l.take k).flatten/\Ext w wr) (fun _ i _=>n-(intOf i).toNat);case atStart=>exact⟨0,by omega,rfl,by simpa using o1,e1⟩
   case round=>
    obtain⟨k,hk',rfl,ow,ex⟩:=hrel;by_cases hlt:k<n
    ·obtain⟨x,hxx⟩:=h.idx hlt;obtain⟨b,off,A',n',c',rfl,_,hc,hsl⟩:=(h.extX (keepX_sl hk.x) ex).sl hxx;have hl2:(l.take (k+1)).flatten=(l.take k).flatten++x:=by rw[take_snoc hxx];simp
     have hle:(l.take (k+1)).flatten.length<=60000:=Nat.le_trans (take_flatten_le _) (by rw[HZ.out];exact HS.out);rw[hl2,List.length_append,hsl.len] at hle;have HL:=hid hl2;clear hl2 hxx
     go_wp2_with (at_builtin
                  refine wpList_appS T_set (by omega) rfl (.tmp 31) (.tmp 32) rfl rfl ow rfl hsl (fun _ _ h=>h) one hk (fun g hg=>hd g (ow.lt g hg).1) hle ex.size ?_
                  intro v2 w2 o2 g2 hat2)
     go_roundw;case rel=>exact⟨k+1,by omega,by go_num,by rw[HL.out];exact o2,ex.app g2 ow⟩
     case measure=>simp[intOf];omega
    ·go_wp2;go_ret;rw[take_all hlen.out (by omega)] at ow;exact⟨_,rfl,ow,ex⟩
end
def PredRule (g:FuncId) (caps:Array Value) (p:Rule->Bool) (l:List Rule) (w:World):Prop:=
 ∀ W s f A1 n1 c1 A2 n2 c2 A3 n3 c3 A4 n4 c4 q r,Ext w W->RuleV W s f A1 n1 c1 A2 n2 c2 A3 n3 c3 A4 n4 c4 q r->r∈l ->
  Calls Tryz.prog g (#[.agg #[.bool s,.bool f,.slice A1 n1 c1,.slice A2 n2 c2,.slice A3 n3 c3,.slice A4 n4 c4,.int .i64 q]]++caps) W fun e w'=>e=.returned (.bool (p r))/\Ext W w'
theorem IndexRule_any (A:Option Addr) (n c:Nat) (l:List Rule) (w:World) (g:FuncId) (caps:Array Value) (p:Rule->Bool)
  (eg:∀ args w,(callFunc g args).run Tryz.prog w=.ok (.enter g args) w) (hp:PredRule g caps p l w) (h:Rules w A n c l) :
  Calls Tryz.prog 64 #[.slice A n c,.func (.func g) #[] caps] w fun e w'=>e=.returned (.int .i64 (idxFrom p 0 l))/\Ext w w':=by
 have hm:=h.max;unfold maxLen at hm;have hcap:=h.cap;have hlen:=hid h.len;have HP:=hid hp;clear hp;go_enter Tryz.func64,Tryz.ntmps64;go_wp2;go_loopw [8] (fun i wr=>∃ k:Nat,k<=n/\i=.int .i64 k/\idxFrom p 0 l=idxFrom p k (l.drop k)/\Ext w wr) (fun i _=>n-(intOf i).toNat);case atStart=>exact⟨0,by omega,rfl,rfl,Ext.refl _⟩
 case round=>
  obtain⟨k,hk,rfl,hkk,hx⟩:=hrel;have HK:=hid hkk;clear hkk;by_cases hlt:k<n
  ·obtain⟨r,hrr⟩:=h.idx hlt;obtain⟨b,off,s,f,A1,n1,c1,A2,n2,c2,A3,n3,c3,A4,n4,c4,q,rfl,⟨_,hne⟩,hv,c0,c1',c2',c3',c4',c5',c6'⟩:=(h.ext hx).rule hrr;have HC:=hid (HP.out wr s f A1 n1 c1 A2 n2 c2 A3 n3 c3 A4 n4 c4 q r hx hv (List.mem_of_getElem? hrr));have HD:=hid (drop_cons hrr);clear hrr;cases hr:p r
   ·have HR:=hid hr;clear hr;go_wp2_with fail;refine HC.out.mono ?_;rintro e w1 ⟨rfl,hx1⟩;rw[HR.out];go_wp2;go_roundw;case rel=>exact⟨k+1,by omega,by go_num,by rw[HK.out,HD.out,idxFrom_no HR.out],hx.trans hx1⟩
    case measure=>simp[intOf];omega
   ·have HR:=hid hr;clear hr;go_wp2_with fail;refine HC.out.mono ?_;rintro e w1 ⟨rfl,hx1⟩;rw[HR.out];go_wp2;go_ret;rw[HK.out,HD.out,idxFrom_yes HR.out];exact⟨rfl,hx.trans hx1⟩
  ·go_wp2;go_ret;rw[HK.out,drop_end hlen.out hlt];exact⟨rfl,hx⟩
end Go.Proofs.YthomjcjnalfipaaGreatDoor
namespace Go.Proofs.YthomjcjnalfipaaGreatDoor
def subSp (x y:Sp):Bool:=decide (y.lo<=x.lo)&&decide (x.hi<=y.hi)
def subSet (a b:List Sp):Bool:=a.all fun x=>b.any fun y=>subSp x y
theorem subSet_has {a b:List Sp} (h:subSet a b=true) {r:Int} (hr:has a r=true):has b r=true:=by
 unfold subSet at h;unfold has at hr ⊢;rw[List.any_eq_true] at hr ⊢;obtain⟨x,hx,hxr⟩:=hr;rw[List.all_eq_true] at h;have:=h x hx;rw[List.any_eq_true] at this;obtain⟨y,hy,hxy⟩:=this;refine⟨y,hy,?_⟩;simp only[subSp,inSp,Bool.and_eq_true,decide_eq_true_eq] at *;omega
def within:List (List Sp)->List (List Sp)->Bool
 | _,[]=>true
 | [],_::_=>false
 | n::ns,w::ws=>subSet n w&&within ns ws
theorem within_get:∀ {n w:List (List Sp)},within n w=true->∀ (i:Nat) (s:List Sp),w[i]? =some s->∃ s',n[i]? =some s'/\subSet s' s=true
 | _,[],_,i,s,h=>by simp at h
 | [],_::_,h,i,s,hs=>by simp[within] at h
 | n::ns,w::ws,h,0,s,hs=>by
  simp only[within,Bool.and_eq_true] at h;simp at hs;subst hs;exact⟨n,rfl,h.1⟩
 | n::ns,w::ws,h,i+1,s,hs=>by
  simp only[within,Bool.and_eq_true] at h;simp at hs;exact within_get h.2 i s hs
theorem within_len:∀ {n w:List (List Sp)},within n w=true->w.length<=n.length
 | _,[],_=>by simp
 | [],_::_,h=>by simp[within] at h
 | n::ns,w::ws,h=>by
  simp only[within,Bool.and_eq_true] at h;have:=within_len h.2;simp;omega
theorem zipHas_iff:∀ (l:List (List Sp)) (u:List Int),zipHas l u=true↔∀ (i:Nat) (s:List Sp),l[i]? =some s->∃ x,u[i]? =some x/\has s x=true
 | [],u=>by simp[zipHas]
 | s::r,[]=>by
  simp only[zipHas,Bool.false_eq_true,false_iff];intro h;obtain⟨x,hx,_⟩:=h 0 s rfl;simp at hx
 | s::r,x::u=>by
  unfold zipHas;rw[Bool.and_eq_true,zipHas_iff r u];constructor
  ·rintro⟨h1,h2⟩ i s' hs
   match i with
   | 0=>simp at hs;subst hs;exact⟨x,rfl,h1⟩
   | i+1=>exact h2 i s' (by simpa using hs)
  ·intro h;refine⟨?_,fun i s' hs=>?_⟩
   ·obtain⟨y,hy,hh⟩:=h 0 s rfl;simp at hy;subst hy;exact hh
   ·obtain⟨y,hy,hh⟩:=h (i+1) s' (by simpa using hs);exact⟨y,by simpa using hy,hh⟩
def masksB (a b:Rule):Bool:=
 within b.before.reverse a.before.reverse&&within (b.source++b.after) (a.source++a.after)&&(!a.start||(b.start&&decide (a.before.length=b.before.length))) &&
  (!a.fin||(b.fin&&decide (a.source.length+a.after.length=b.source.length+b.after.length)))
theorem here_parts {r:Rule} {t:List Int} {x:Nat} (hx:x<=t.length):here r t x=true ↔
  r.before.length<=x/\zipHas r.before (t.drop (x-r.before.length))=true/\zipHas (r.source++r.after) (t.drop x)=true /\
   (r.start=true->x=r.before.length)/\(r.fin=true->x+r.source.length+r.after.length=t.length):=by
 unfold here;by_cases hb:r.before.length<=x
 ·rw[show ((x:Int)-r.before.length)=((x-r.before.length:Nat):Int) by omega,show ((x:Int)+r.source.length)=((x+r.source.length:Nat):Int) by omega,
   allAt_nat r.source hx,allAt_nat r.before (by omega)]
  by_cases hs:x+r.source.length<=t.length
  ·rw[allAt_nat r.after hs,zipHas_append,List.drop_drop];simp only[Bool.and_eq_true,Bool.not_eq_true',Bool.and_eq_false_iff,decide_eq_false_iff_not];constructor
   ·rintro⟨⟨⟨⟨h1,h2⟩,h3⟩,h4⟩,h5⟩
    exact⟨hb,h2,⟨h1,h3⟩,fun e=>by
     rcases h4 with h4 | h4
     ·rw[e] at h4;cases h4
     ·omega,fun e=>by
     rcases h5 with h5 | h5
     ·rw[e] at h5;cases h5
     ·omega⟩
   ·rintro⟨_,h2,⟨h1,h3⟩,h4,h5⟩;refine⟨⟨⟨⟨h1,h2⟩,h3⟩,?_⟩,?_⟩
    ·cases e:r.start
     ·exact .inl rfl
     ·exact .inr (by have:=h4 e;omega)
    ·cases e:r.fin
     ·exact .inl rfl
     ·exact .inr (by have:=h5 e;omega)
  ·have hz:zipHas r.source (t.drop x)=false:=by
    cases e:zipHas r.source (t.drop x)
    ·rfl
    ·have:=zipHas_len _ _ e;rw[List.length_drop] at this;omega
   rw[zipHas_append,hz];simp
 ·rw[allAt_neg (show (x:Int)-r.before.length<0 by omega)];simp[hb]
theorem masks_here {a b:Rule} {t:List Int} {x:Nat} (hx:x<=t.length) (hm:masksB a b=true) (hb:here b t x=true):here a t x=true:=by
 unfold masksB at hm;simp only[Bool.and_eq_true,Bool.or_eq_true,Bool.not_eq_true',decide_eq_true_eq] at hm;obtain⟨⟨⟨m1,m2⟩,m3⟩,m4⟩:=hm;rw[here_parts hx] at hb ⊢;obtain⟨h1,h2,h3,h4,h5⟩:=hb;have l1:=within_len m1;simp only[List.length_reverse] at l1;refine⟨by omega,?_,?_,fun e=>?_,fun e=>?_⟩
 ·rw[zipHas_iff] at h2 ⊢;intro i s hs;have hi:i<a.before.length:=lt_of_get hs;obtain⟨s',g1,g2⟩:=within_get m1 (a.before.length-1-i) s (by rw[List.getElem?_reverse (by omega)];rw[show a.before.length-1-(a.before.length-1-i)=i by omega];exact hs);rw[List.getElem?_reverse (by omega)] at g1;obtain⟨v,g3,g4⟩:=h2 _ _ g1;refine⟨v,?_,subSet_has g2 g4⟩;rw[List.getElem?_drop] at g3 ⊢;rw[<- g3];congr 1;omega
 ·rw[zipHas_iff] at h3 ⊢;intro i s hs;obtain⟨s',g1,g2⟩:=within_get m2 i s hs;obtain⟨v,g3,g4⟩:=h3 _ _ g1;exact⟨v,g3,subSet_has g2 g4⟩
 ·rcases m3 with m3 | ⟨m3,m5⟩
  ·rw[e] at m3;cases m3
  ·rw[h4 m3,m5]
 ·rcases m4 with m4 | ⟨m4,m5⟩
  ·rw[e] at m4;cases m4
  ·have:=h5 m4;omega
theorem first_find (l:List Rule) (t:List Int) (a:Int) :
  (l.find? (fun r=>here r t a)=none/\first l t a<0)\/∃ (i:Nat) (r:Rule),l.find? (fun r=>here r t a)=some r/\first l t a=i/\l[i]? =some r:=by
 unfold first
 have key:∀ (k:Nat) (l:List Rule),(l.find? (fun r=>here r t a)=none/\idxFrom (fun r=>here r t a) k l<0) \/
   ∃ (i:Nat) (r:Rule),l.find? (fun r=>here r t a)=some r/\idxFrom (fun r=>here r t a) k l=(k+i:Nat)/\l[i]? =some r:=by
  intro k l
  induction l generalizing k with
  | nil=>exact .inl ⟨rfl,by simp[idxFrom]⟩
  | cons x l ih=>
   cases h:here x t a
   ·rw[List.find?_cons_of_neg (by simp[h]),idxFrom,if_neg (by simp[h])];rcases ih (k+1) with ⟨h1,h2⟩ | ⟨i,r,h1,h2,h3⟩
    ·exact .inl ⟨h1,h2⟩
    ·exact .inr ⟨i+1,r,h1,by rw[h2];congr 1;omega,by simpa using h3⟩
   ·rw[List.find?_cons_of_pos (by simp[h]),idxFrom,if_pos (by simp[h])];exact .inr ⟨0,x,rfl,by simp,rfl⟩
 rcases key 0 l with h | ⟨i,r,h1,h2,h3⟩
 ·exact .inl h
 ·exact .inr ⟨i,r,h1,by rw[h2];congr 1;omega,h3⟩
theorem playStep_find {l l':List Rule} {p:Play} (h:l.find? (fun r=>here r p.text p.at_)=l'.find? (fun r=>here r p.text p.at_)):playStep l p=playStep l' p:=by
 obtain⟨t,a,s,q⟩:=p;simp only[] at h;rcases first_find l t a with ⟨h1,h2⟩ | ⟨i,r,h1,h2,h3⟩
 ·rcases first_find l' t a with ⟨g1,g2⟩ | ⟨j,r',g1,g2,g3⟩
  ·rw[playStep_no h2,playStep_no g2]
  ·rw[h,g1] at h1;cases h1
 ·rcases first_find l' t a with ⟨g1,g2⟩ | ⟨j,r',g1,g2,g3⟩
  ·rw[h,g1] at h1;cases h1
  ·rw[h,g1] at h1;cases h1;by_cases hb:4000<(t.length:Int)-r.source.length+r.target.length
   ·rw[playStep_much h2 h3 hb,playStep_much g2 g3 hb]
   ·rw[playStep_put h2 h3 hb,playStep_put g2 g3 hb]
theorem play_congr {l l':List Rule} (h:∀ p:Play,p.at_<p.text.length->playStep l p=playStep l' p):∀ (n:Nat) (p:Play),play l n p=play l' n p
 | n,p=>by
  by_cases hlt:p.at_<p.text.length
  ·match n with
   | 0=>rw[play_out hlt,play_out hlt]
   | n+1=>
    cases e:playStep l p with
    | none=>rw[play_none hlt e,play_none hlt ((h p hlt).symm.trans e)]
    | some q=>rw[play_next hlt e,play_next hlt ((h p hlt).symm.trans e)];exact play_congr h n q
  ·rw[play_end hlt,play_end hlt]
def isMasked (l:List Rule) (k:Nat):Bool:=match l[k]? with
 | none=>false
 | some b=>(l.take k).any fun a=>masksB a b
theorem isMasked_at {l:List Rule} {k:Nat} {b:Rule} (h:l[k]? =some b):isMasked l k=(l.take k).any fun a=>masksB a b:=by unfold isMasked;rw[h]
def maskedTo (l:List Rule) (k:Nat):List Nat:=(List.range k).filter (isMasked l)
theorem maskedTo_yes {l:List Rule} {k:Nat} (h:isMasked l k=true):maskedTo l (k+1)=maskedTo l k++[k]:=by unfold maskedTo;rw[List.range_succ,List.filter_append];simp[h]
theorem maskedTo_no {l:List Rule} {k:Nat} (h:isMasked l k=false):maskedTo l (k+1)=maskedTo l k:=by unfold maskedTo;rw[List.range_succ,List.filter_append];simp[h]
theorem maskedTo_len (l:List Rule) (k:Nat):(maskedTo l k).length<=k:=by unfold maskedTo;have:=List.length_filter_le (isMasked l) (List.range k);simpa using this
theorem maskedTo_mem {l:List Rule} {k i:Nat} (h:i∈maskedTo l k):i<k/\isMasked l i=true:=by unfold maskedTo at h;simpa using h
end Go.Proofs.YthomjcjnalfipaaGreatDoor
namespace Go.Proofs.YthomjcjnalfipaaGreatDoor
open Go.RowKit
theorem good_one {l:List Sp} (h:Good l) {i j:Nat} {x y:Sp} {r:Int} (hx:l[i]? =some x) (hy:l[j]? =some y) (h1:x.lo<=r/\r<=x.hi) (h2:y.lo<=r/\r<=y.hi):x=y:=by
 rcases Nat.lt_trichotomy i j with hij | rfl | hij
 ·have:=pw_get h.pw hij hx hy;omega
 ·rw[hx] at hy;exact Option.some.inj hy
 ·have:=pw_get h.pw hij hy hx;omega
theorem sub_found {l:List Sp} (h:Good l) {x:Sp} (hx:x.lo<=x.hi) {i:Nat} (hf:Found (fun j=>decide (x.lo<=(l.getD j default).hi)) l.length i) :
  (l.any fun y=>subSp x y)=(decide (i<l.length)&&decide ((l.getD i default).lo<=x.lo)&&decide (x.hi<=(l.getD i default).hi)):=by
 have hh:=has_found h hf;rw[Bool.eq_iff_iff];simp only[List.any_eq_true,Bool.and_eq_true,decide_eq_true_eq,subSp];constructor
 ·rintro⟨y,hy,h1,h2⟩;have:has l x.lo=true:=has_iff.2 ⟨y,hy,h1,by omega⟩;rw[hh] at this;simp only[Bool.and_eq_true,decide_eq_true_eq] at this;obtain⟨hi,h3⟩:=this;obtain⟨z,hz⟩:=get_lt hi;obtain⟨j,hj⟩:=List.getElem?_of_mem hy;have h4:=hf.2.2 hi;rw[getD_of hz] at h3 ⊢;simp only[getD_of hz,decide_eq_true_eq] at h4;have e:=good_one h hz hj (r:=x.lo) ⟨h3,h4⟩ ⟨h1,by omega⟩;subst e;exact⟨⟨hi,h3⟩,h2⟩
 ·rintro⟨⟨hi,h3⟩,h4⟩;obtain⟨z,hz⟩:=get_lt hi;rw[getD_of hz] at h3 h4;exact⟨z,List.mem_of_getElem? hz,h3,h4⟩
theorem subAt_any (B1 B2:Nat) (A:Option Addr) (n c:Nat) (l:List Sp) (x:Sp) (i:Nat) (w:World) (h:Spans w A n c l) (hi:i<n)
  (h0:w.cell? ⟨B1,0,none⟩=some (.slice A n c)) (h1:w.cell? ⟨B2,0,none⟩=some (.int .i32 x.lo)) :
  Calls Tryz.prog 141 #[.int .i64 i,.pointer (some ⟨B1,0,none⟩),.pointer (some ⟨B2,0,none⟩)] w
   fun e w'=>e=.returned (.bool (decide (x.lo<=(l.getD i default).hi)))/\Ext w w':=by
 obtain⟨y,hyy⟩:=h.idx hi;have hm:=h.max;unfold maxLen at hm;have hcap:=h.cap;obtain⟨b,off,rfl,⟨_,hne⟩,hc1,hc2,_⟩:=h.span hyy;have HE:=hid (getD_of hyy);clear hyy;have hi':(i:Int)<(n:Int):=by omega
 generalize x.lo=r at *;go_enter Tryz.func141,Tryz.ntmps141;go_wp2;go_quiet (fail);go_wp2;go_ret;rw[HE.out];exact⟨rfl,(Ext.refl _).drewN _⟩
theorem subSet_nil (b:List Sp):subSet [] b=true:=rfl
theorem subSet_cons (x:Sp) (a b:List Sp):subSet (x::a) b=((b.any fun y=>subSp x y)&&subSet a b):=rfl
theorem Sub_any (A:Option Addr) (n c:Nat) (a:List Sp) (B:Option Addr) (m d:Nat) (b:List Sp) (w:World) (hA:Spans w A n c a) (hB:Spans w B m d b) (ga:wrongSet a=0) (gb:wrongSet b=0) :
  Calls Tryz.prog 105 #[.slice A n c,.slice B m d] w fun e w'=>e=.returned (.bool (subSet a b))/\Ext w w':=by
 have GA:=good_of ga;have GB:=good_of gb;have hn:n<=200:=by rw[<- hA.len];exact GA.len
 have hm:m<=200:=by rw[<- hB.len];exact GB.len
 have hcA:=hA.cap;have hcB:=hB.cap;have hlA:=hid hA.len;have hlB:=hid hB.len;have hmf:∀ (fn:Fn) (first cap:Array Value) (w:World),(Instr.makeFunc fn first cap).run Tryz.prog w=.ok (.func fn first cap) w:=fun _ _ _ _=>rfl;have eg:∀ args w,(callFunc 141 args).run Tryz.prog w=.ok (.enter 141 args) w:=enters Tryz.func141 (by kernel_rfl) rfl;have e1:=(Ext.refl w).alloc (.cells #[.slice B m d] 23);have k0:(w.alloc (.cells #[.slice B m d] 23)).cell? ⟨w.heap.size,0,none⟩=some (.slice B m d):=by simp
 have hs0:w.heap.size<(w.alloc (.cells #[.slice B m d] 23)).heap.size:=by simp
 go_enter Tryz.func105,Tryz.ntmps105;go_wp2;generalize w.alloc (.cells #[.slice B m d] 23)=w1 at *;go_loopw [10] (fun i wr=>∃ k:Nat,k<=n/\i=.int .i64 k/\subSet a b=subSet (a.drop k) b/\Ext w1 wr) (fun i _=>n-(intOf i).toNat);case atStart=>exact⟨0,by omega,rfl,rfl,Ext.refl _⟩
 case round=>
  obtain⟨k,hk,rfl,hkk,hx⟩:=hrel;have HK:=hid hkk;clear hkk;have ex:=e1.trans hx;have y0:=hx.cell k0;have hlt0:w.heap.size<wr.heap.size:=Nat.lt_of_lt_of_le hs0 hx.size;by_cases hlt:k<n
  ·obtain⟨x,hxx⟩:=hA.idx hlt;obtain⟨b1,o1,rfl,⟨hb1,hb1n⟩,c1,c2,_,_⟩:=(hA.ext ex).span hxx;have hrng:=GA.rng x (List.mem_of_getElem? hxx);have HD:=hid (drop_cons hxx);clear hxx;have ey:=ex.alloc (.cells #[.int .i32 x.lo,.int .i32 x.hi] 30);have ez:=(Ext.refl wr).alloc (.cells #[.int .i32 x.lo,.int .i32 x.hi] 30)
   have hp:PredInt 141 #[.pointer (some ⟨w.heap.size,0,none⟩),.pointer (some ⟨wr.heap.size,0,none⟩)] (fun j=>decide (x.lo<=(b.getD j default).hi)) m (wr.alloc (.cells #[.int .i32 x.lo,.int .i32 x.hi] 30)):=by
    intro W i hW hi;exact subAt_any w.heap.size wr.heap.size B m d b x i W (hB.ext (ey.trans hW)) hi (hW.cell (ez.cell y0)) (hW.cell (by simp))
   have HC:=hid (Search_any m _ _ _ _ (by omega) eg hp);have X0:=hid (cell_new wr #[.int .i32 x.lo,.int .i32 x.hi] 30 0 (.int .i32 x.lo) rfl);have X1:=hid (cell_new wr #[.int .i32 x.lo,.int .i32 x.hi] 30 1 (.int .i32 x.hi) rfl);clear hp;go_upto_region 5 with (go_at_call 30;refine HC.out.mono ?_;rintro e w2 ⟨⟨i,rfl,hf⟩,hx2⟩;have z0:=hx2.cell (ez.cell y0);have v0:=hx2.cell X0.out;have v1:=hx2.cell X1.out);have hfd:=hf;rw[<- hB.len] at hfd;have HR:=hid (sub_found GB hrng.2.1 hfd);clear hfd;have hin:=hf.1;have hF:=hid hf;clear hf;have e2:=ey.trans hx2
   have HS:Hid (subSet a b=((decide (i<m)&&decide ((b.getD i default).lo<=x.lo)&&decide (x.hi<=(b.getD i default).hi))&&subSet (a.drop (k+1)) b)):=hid (by
    rw[HK.out,HD.out,subSet_cons,HR.out,hlB.out])
   have f2:=ez.trans hx2;by_cases hi:i<m
   ·obtain⟨z,hzz⟩:=hB.idx hi;obtain⟨b2,o2,rfl,⟨_,hb2n⟩,d1,d2,_,_⟩:=(hB.ext e2).span hzz;have HZ:=hid (getD_of hzz);clear hzz;have hq:((i:Int)==(m:Int))=false:=by simp;omega
    have hi':(i:Int)<(m:Int):=by omega
    by_cases t1:x.lo<z.lo
    ·have HS2:Hid (subSet a b=false):=hid (by rw[HS.out,HZ.out,decide_eq_false (by omega:¬ z.lo<=x.lo)];simp);have t1':decide (x.lo<z.lo)=true:=by simpa using t1
     clear t1;go_quiet (fail);go_wp2;go_ret;rw[HS2.out];exact⟨rfl,(ex.trans f2).drewN _⟩
    ·have t1':decide (x.lo<z.lo)=false:=by simpa using t1
     by_cases t2:z.hi<x.hi
     ·have HS2:Hid (subSet a b=false):=hid (by rw[HS.out,HZ.out,decide_eq_false (by omega:¬ x.hi<=z.hi)];simp);have t2':decide (z.hi<x.hi)=true:=by simpa using t2
      clear t1 t2;go_quiet (fail);go_wp2;go_ret;rw[HS2.out];exact⟨rfl,(ex.trans f2).drewN _⟩
     ·have HS2:Hid (subSet a b=subSet (a.drop (k+1)) b):=hid (by rw[HS.out,HZ.out,decide_eq_true hi,decide_eq_true (by omega:z.lo<=x.lo),decide_eq_true (by omega:x.hi<=z.hi)];simp);have t2':decide (z.hi<x.hi)=false:=by simpa using t2
      clear t1 t2;go_quiet (fail);go_wp2;go_roundw;case rel=>exact⟨k+1,by omega,by go_num,HS2.out,(hx.trans f2).drewN _⟩
      case measure=>simp[intOf];omega
   ·have HS2:Hid (subSet a b=false):=hid (by rw[HS.out,decide_eq_false hi];simp);have hq:((i:Int)==(m:Int))=true:=by simp;omega
    go_quiet (fail);go_wp2;go_ret;rw[HS2.out];exact⟨rfl,(ex.trans f2).drewN _⟩
  ·have HS2:Hid (subSet a b=true):=hid (by rw[HK.out,drop_end hlA.out hlt,subSet_nil]);go_wp2;go_ret;rw[HS2.out];exact⟨rfl,ex⟩
theorem within_short {n w:List (List Sp)} (h:n.length<w.length):within n w=false:=by
 cases e:within n w
 ·rfl
 ·have:=within_len e;omega
theorem within_nil (n:List (List Sp)):within n []=true:=by cases n <;> rfl
theorem within_cons (a b:List Sp) (n w:List (List Sp)):within (a::n) (b::w)=(subSet a b&&within n w):=rfl
theorem within_any (A:Option Addr) (n c:Nat) (l:List (List Sp)) (B:Option Addr) (m d:Nat) (r:List (List Sp)) (w:World) (hA:Sets w A n c l) (hB:Sets w B m d r) (ga:okSets l) (gb:okSets r) (hn:n<=40) (hm:m<=40) :
  Calls Tryz.prog 71 #[.slice A n c,.slice B m d] w fun e w'=>e=.returned (.bool (within l r))/\Ext w w':=by
 have hlA:=hid hA.len;have hlB:=hid hB.len;have hcA:=hA.cap;have hcB:=hB.cap;by_cases hb:n<m
 ·have HS:Hid (within l r=false):=hid (within_short (by rw[hlA.out,hlB.out];exact hb));have hb':decide ((n:Int)<(m:Int))=true:=by simp;omega
  go_enter Tryz.func71,Tryz.ntmps71;go_wp2;go_ret;rw[HS.out];exact⟨rfl,Ext.refl _⟩
 ·have hb':decide ((n:Int)<(m:Int))=false:=by simp;omega
  go_enter Tryz.func71,Tryz.ntmps71;go_wp2;go_loopw [14] (fun i wr=>∃ k:Nat,k<=m/\i=.int .i64 k/\within l r=within (l.drop k) (r.drop k)/\Ext w wr) (fun i _=>m-(intOf i).toNat);case atStart=>exact⟨0,by omega,rfl,rfl,Ext.refl _⟩
  case round=>
   obtain⟨k,hk,rfl,hkk,hx⟩:=hrel;have HK:=hid hkk;clear hkk;by_cases hlt:k<m
   ·obtain⟨s,hss⟩:=hB.idx hlt;obtain⟨b1,o1,A1,n1,c1,rfl,⟨_,hb1n⟩,k1,hS⟩:=(hB.ext hx).sl hss;obtain⟨u,huu⟩:=hA.idx (k:=k) (by omega);obtain⟨b2,o2,A2,n2,c2,rfl,⟨_,hb2n⟩,k2,hU⟩:=(hA.ext hx).sl huu;have HC:=hid (Sub_any A2 n2 c2 u A1 n1 c1 s wr hU hS (ga u (List.mem_of_getElem? huu)) (gb s (List.mem_of_getElem? hss)));have HD:=hid (drop_cons hss);have HE:=hid (drop_cons huu);clear hss huu hS hU;cases hr:subSet u s
    ·have HR:=hid hr;clear hr;have HS2:Hid (within l r=false):=hid (by rw[HK.out,HD.out,HE.out,within_cons,HR.out];rfl);go_wp2_with (go_at_call 105;refine HC.out.mono ?_;rintro e w1 ⟨rfl,hx1⟩;rw[HR.out]);go_ret;rw[HS2.out];exact⟨rfl,hx.trans hx1⟩
    ·have HR:=hid hr;clear hr;go_wp2_with (go_at_call 105;refine HC.out.mono ?_;rintro e w1 ⟨rfl,hx1⟩;rw[HR.out]);go_roundw;case rel=>exact⟨k+1,by omega,by go_num,by rw[HK.out,HD.out,HE.out,within_cons,HR.out,Bool.true_and],hx.trans hx1⟩
     case measure=>simp[intOf];omega
   ·have HS2:Hid (within l r=true):=hid (by rw[HK.out,drop_end hlB.out hlt,within_nil]);go_wp2;go_ret;rw[HS2.out];exact⟨rfl,hx⟩
def RevAt (w:World) (g off n:Nat) (news:List Value) (k:Nat):Prop:=∀ j u,j<n->news[rho n k j]? =some u->w.cell? ⟨g,off+j,none⟩=some u
theorem RevAt.step {w:World} {g off n k:Nat} {news:List Value} {u1 u2:Value} (h:RevAt w g off n news k) (hk:k<n-1-k) (h1:news[k]? =some u1) (h2:news[n-1-k]? =some u2) :
  RevAt ((w.setCell ⟨g,off+k,none⟩ u2).setCell ⟨g,off+(n-1-k),none⟩ u1) g off n news (k+1):=by
 intro j u hj hu;by_cases e1:j=n-1-k
 ·subst e1;have:rho n (k+1) (n-1-k)=k:=by unfold rho;rw[if_pos (by omega)];omega
  rw[this,h1] at hu;cases hu
  have hc:=h (n-1-k) u2 hj (by have:rho n k (n-1-k)=n-1-k:=by unfold rho;rw[if_neg (by omega)]
                               rw[this];exact h2)
  by_cases e2:off+(n-1-k)=off+k
  ·omega
  ·exact World.cell?_setCell_same' _ _ _ (by rw[World.cell?_setCell_other _ _ _ _ (by intro e;simp only[Addr.mk.injEq,and_true,true_and] at e;omega),hc];rfl)
 ·rw[World.cell?_setCell_other _ _ _ _ (by intro e;simp only[Addr.mk.injEq,and_true,true_and] at e;omega)];by_cases e2:j=k
  ·subst e2;have:rho n (j+1) j=n-1-j:=by unfold rho;rw[if_pos (by omega)]
   rw[this,h2] at hu;cases hu
   have hc:=h j u1 hj (by have:rho n j j=j:=by unfold rho;rw[if_neg (by omega)]
                          rw[this];exact h1)
   exact World.cell?_setCell_same' _ _ _ (by rw[hc];rfl)
  ·rw[World.cell?_setCell_other _ _ _ _ (by intro e;simp only[Addr.mk.injEq,and_true,true_and] at e;omega)];refine h j u hj ?_
   have:rho n k j=rho n (k+1) j:=by
    unfold rho;by_cases hz:j<k\/n-k<=j
    ·rw[if_pos hz,if_pos (by omega)]
    ·rw[if_neg hz,if_neg (by omega)]
   rw[this];exact hu
theorem RevAt.all {w:World} {g off n k:Nat} {news:List Value} (h:RevAt w g off n news k) (hk:n<=2*k+1):∀ j u,j<n->news[n-1-j]? =some u->w.cell? ⟨g,off+j,none⟩=some u:=by
 intro j u hj hu;refine h j u hj ?_
 have:rho n k j=n-1-j:=by
  unfold rho;by_cases hz:j<k\/n-k<=j
  ·rw[if_pos hz]
  ·rw[if_neg hz];omega
 rw[this];exact hu
section
variable {α : Type} {R : World -> List Value -> α -> Prop} {sz : Nat} {ok' : Nat -> Prop}
theorem ReverseL_any {okk:Nat->Prop} (hk:Keep (rSl R sz ok') okk) {ok:Nat->Prop} (A:Option Addr) (n c:Nat) (l:List (List α)) (w a:World) (h:SlR (rSl R sz ok') 1 ok w A n c l) (hn:n<=60000) (hA:∀ g off,A=some ⟨g,off,none⟩->¬ okk g/\(∀ i,w.frozen? ⟨g,i,none⟩=false)/\a.heap.size<=g) (ha:Ext a w) :
  Calls Tryz.prog 107 #[.slice A n c] w fun e w'=>e=.returned (.tuple #[])/\SlR (rSl R sz ok') 1 ok w' A n c l.reverse/\Ext a w':=by
 have hcap:=h.cap;by_cases hz:n=0
 ·have hl:l=[]:=List.eq_nil_of_length_eq_zero (by rw[h.len];exact hz);subst hl;subst hz;have H:=hid h;clear h hA;go_enter Tryz.func107,Tryz.ntmps107;go_wp2;go_loop [2,3] (fun u v=>u=.int .i64 0/\v=.int .i64 (-1)) (fun _ _=>0);case atStart=>exact⟨rfl,rfl⟩
  case round=>
   obtain⟨rfl,rfl⟩:=hrel;go_wp2;go_end0;exact⟨rfl,H.out,ha⟩
 ·obtain⟨ad,news,rfl,hnl,hen,hcell⟩:=h.news (by omega);obtain⟨x0,hx0⟩:=h.idx (k:=0) (by omega);obtain⟨b,off,vs0,e0,hob,_⟩:=h.at_ 0 x0 hx0;cases e0;obtain⟨g1,g2,g3⟩:=hA b off rfl;rw[Nat.mul_one] at hnl
  have R0:RevAt w b off n news 0:=fun j u hj hu=>by
   have:rho n 0 j=j:=by unfold rho;rw[if_neg (by omega)]
   rw[this] at hu;have:=hcell j u hu
   rwa [addr_add] at this
  have hform:∀ j,j<n->∃ A' n' c',news[j]? =some (.slice A' n' c'):=fun j hj=>by
   obtain⟨y,hy⟩:=h.idx hj;obtain⟨vs,v1,⟨A',n',c',rfl,_⟩,v3⟩:=hen.get j y hy;exact⟨A',n',c',by simpa using v3 0 _ rfl⟩
  have HN:=hid hnl;have HE:=hid hen;have H:=hid h;have HF:=hid hform;clear hcell hx0 hA hen h hform hnl;go_enter Tryz.func107,Tryz.ntmps107;go_wp2;go_loopw [2,3] (fun u v wr=>∃ k:Nat,2*k<=n/\u=.int .i64 k/\v=.int .i64 ((n:Int)-1-k)/\Hid (RevAt wr b off n news k)/\Hid (∀ i,wr.frozen? ⟨b,i,none⟩=false)/\Agree (fun x=>x≠b) w wr/\Ext a wr) (fun u _ _=>n-(intOf u).toNat);case atStart=>exact⟨0,by omega,rfl,by simp,R0,g2,Agree.refl _ _,ha⟩
  case round=>
   obtain⟨k,hkn,rfl,rfl,hr,hf,hag,hx⟩:=hrel;by_cases hlt:k<n-1-k
   ·obtain⟨A1,n1,c1,hu1⟩:=HF.out k (by omega);obtain⟨A2,n2,c2,hu2⟩:=HF.out (n-1-k) (by omega)
    have z1:wr.cell? ⟨b,off+k,none⟩=some (.slice A1 n1 c1):=hr.out k _ (by omega) (by
     have:rho n k k=k:=by unfold rho;rw[if_neg (by omega)]
     rw[this];exact hu1)
    have z2:wr.cell? ⟨b,off+(n-1-k),none⟩=some (.slice A2 n2 c2):=hr.out (n-1-k) _ (by omega) (by
     have:rho n k (n-1-k)=n-1-k:=by unfold rho;rw[if_neg (by omega)]
     rw[this];exact hu2)
    have HS:=hid (hr.out.step hlt hu1 hu2);have fz:=hf.out;clear hu1 hu2 g2;have b1:(0:Int)<=(k:Int):=by omega
    have b2:(0:Int)<=(n:Int)-1-k:=by omega
    have b3:(n:Int)-1-k<n:=by omega
    have b4:(k:Int)<n:=by omega
    have b5:((n:Int)-1-k).toNat=n-1-k:=by omega
    have b6:decide ((k:Int)<(n:Int)-1-k)=true:=by simp;omega
    have b7:(k:Int)<=(n:Int)-1:=by omega
    have b8:off+(n-1-k)≠off+k:=by omega
    have b9:off+k≠off+(n-1-k):=by omega
    go_wp2;go_region;go_wp2;go_roundw
    case rel=>
     refine⟨k+1,by omega,by go_num,by congr 1;omega,(fun j u hj hu=>HS.out j u hj hu),(fun i=>?_),fun x hx' hl=>?_,(ext_set (ext_set hx g3 _ _) g3 _ _).drew⟩
     ·show World.frozen? ((wr.setCell _ _).setCell _ _) _=_;rw[World.frozen?_setCell,World.frozen?_setCell];exact fz i
     ·exact (Below.heap_setCell _ _ _ _ hx').trans ((Below.heap_setCell _ _ _ _ hx').trans (hag x hx' hl))
    case measure=>simp[intOf];omega
   ·have b6:decide ((k:Int)<(n:Int)-1-k)=false:=by simp;omega
    go_wp2;go_end0;refine⟨rfl,⟨by simpa using H.out.len,H.out.cap,H.out.max,fun j x hj=>?_⟩,hx⟩;have hjn:j<n:=by have:=lt_of_get hj;rw[List.length_reverse,H.out.len] at this;exact this
    rw[List.getElem?_reverse (by rw[H.out.len];exact hjn),H.out.len] at hj;obtain⟨vs,v1,v2,v3⟩:=HE.out.get _ x hj;refine⟨b,off,vs,rfl,hob,v1,hk _ _ _ _ (hag.mono fun y hy e=>g1 (e▸hy)) v2,fun i u hu=>?_⟩;have h1:=v3 i u hu;have hi:i=0:=by have:=lt_of_get hu;omega
    subst hi;have:=hr.out.all (by omega) j u hjn (by simpa using h1);simpa using this
end
theorem turned_any (A:Option Addr) (n c:Nat) (l:List (List Sp)) (w:World) (h:Sets w A n c l) (hn:n<=60000) :
  Calls Tryz.prog 72 #[.slice A n c] w fun e w'=>(∃ A' c',e=.returned (.slice A' n c')/\Sets w' A' n c' l.reverse)/\Ext w w':=by
 have hl:=hid h.len;have HC:=hid (Clone_set (one_sl _ _ _) (keep_setB w.heap.size) A n c l w (sets_lt h) (by omega) (fun g hg=>by omega));have HR:=hid (fun A' c' w' hs hA he=>ReverseL_any (R:=rSpan) (sz:=2) (keep_setB w.heap.size) (ok:=fun b=>w.heap.size<=b) A' n c' l w' w hs hn hA he);go_enter Tryz.func72,Tryz.ntmps72
 go_wp2_with (first
  | (go_at_call 106;refine HC.out.mono ?_;rintro e w1 ⟨v,rfl,ov,x1⟩;obtain⟨A',c',rfl,s1⟩:=ov.sl;have hA:=hid (fun g off (e:A'=some ⟨g,off,none⟩)=>ov.free e);simp only[hl.out] at s1;rw[hl.out])
  | (go_at_call 107;refine (HR.out A' c' w1 s1 (fun g off e=>⟨fun hlt=>absurd (hA.out g off e).1 (by omega),(hA.out g off e).2,(hA.out g off e).1⟩) x1).mono ?_;rintro e w2 ⟨rfl,s2,x2⟩))
 go_ret;exact⟨⟨A',c',rfl,sets_top s2⟩,x2⟩
def RuleHas (w:World) (b off:Nat) (r:Rule):Prop:=
 ∃ s f A1 n1 c1 A2 n2 c2 A3 n3 c3 A4 n4 c4 q,RuleAt w b off s f A1 n1 c1 A2 n2 c2 A3 n3 c3 A4 n4 c4 q/\RuleV w s f A1 n1 c1 A2 n2 c2 A3 n3 c3 A4 n4 c4 q r
theorem sets2_new {w':World} (X Y:Option Addr) (nx cx ny cy:Nat) (x y:List (List Sp)) (t:TypeId) (B:Nat) (hx:SlR (rSl rSpan 2 (fun b=>b<B)) 1 (fun b=>b<B) w' X nx cx x) (hy:SlR (rSl rSpan 2 (fun b=>b<B)) 1 (fun b=>b<B) w' Y ny cy y) :
  SlR (rSl (rSl rSpan 2 (fun b=>b<B)) 1 (fun b=>b<B)) 1 top (w'.alloc (.cells #[.slice X nx cx,.slice Y ny cy] t)) (some ⟨w'.heap.size,0,none⟩) 2 2 [x,y]:=by
 have e:=(Ext.refl w').alloc (.cells #[.slice X nx cx,.slice Y ny cy] t);refine SlR.fresh rfl (by unfold maxLen;omega) fun k u huu=>?_
 match k,huu with
 | 0,huu=>cases huu;exact⟨[.slice X nx cx],rfl,⟨X,nx,cx,rfl,hx.ext (keep_setB B) e⟩,fun j v hv=>by match j,hv with | 0,hv=>simpa using hv⟩
 | 1,huu=>cases huu;exact⟨[.slice Y ny cy],rfl,⟨Y,ny,cy,rfl,hy.ext (keep_setB B) e⟩,fun j v hv=>by match j,hv with | 0,hv=>simpa using hv⟩
theorem okSets_rev {l:List (List Sp)} (h:okSets l):okSets l.reverse:=fun s hs=>h s (by simpa using hs)
theorem okSets_app {l m:List (List Sp)} (h:okSets l) (k:okSets m):okSets (l++m):=fun s hs=>(List.mem_append.1 hs).elim (h s) (k s)
theorem masks_any (B1 o1 B2 o2:Nat) (a b:Rule) (w:World) (ha:RuleHas w B1 o1 a) (hb:RuleHas w B2 o2 b) (oka:OkRule a) (okb:OkRule b) :
  Calls Tryz.prog 41 #[.pointer (some ⟨B1,o1,none⟩),.pointer (some ⟨B2,o2,none⟩)] w fun e w'=>e=.returned (.bool (masksB a b))/\Ext w w':=by
 obtain⟨s,f,A1,n1,c1,A2,n2,c2,A3,n3,c3,A4,n4,c4,q,hr,hv⟩:=ha;obtain⟨s',f',A1',n1',c1',A2',n2',c2',A3',n3',c3',A4',n4',c4',q',hr',hv'⟩:=hb;have l1:=oka.lb;have l2:=oka.ls;have l3:=oka.la;have l1':=okb.lb;have l2':=okb.ls;have l3':=okb.la;rw[hv.before.len] at l1;rw[hv.source.len] at l2;rw[hv.after.len] at l3;rw[hv'.before.len] at l1';rw[hv'.source.len] at l2';rw[hv'.after.len] at l3'
 have HM:Hid (masksB a b=(within b.before.reverse a.before.reverse&&within (b.source++b.after) (a.source++a.after)&&(!s||(s'&&((n1:Int)==(n1':Int))))&&(!f||(f'&&((n2:Int)+n3==(n2':Int)+n3'))))):=hid (by
  unfold masksB;rw[hv.start,hv'.start,hv.fin,hv'.fin,hv.before.len,hv'.before.len,hv.source.len,hv'.source.len,hv.after.len,hv'.after.len];have d1:decide (n1=n1')=((n1:Int)==(n1':Int)):=by rw[Bool.eq_iff_iff,decide_eq_true_eq,beq_iff_eq];omega
  have d2:decide (n2+n3=n2'+n3')=((n2:Int)+n3==(n2':Int)+n3'):=by rw[Bool.eq_iff_iff,decide_eq_true_eq,beq_iff_eq];omega
  rw[d1,d2])
 have T1:=hid (fun W (e:Ext w W)=>turned_any A1' n1' c1' b.before W (hv'.before.ext e) (by omega));have T2:=hid (fun W (e:Ext w W)=>turned_any A1 n1 c1 a.before W (hv.before.ext e) (by omega));have V:=hid hv;have V':=hid hv';clear hv hv';have R:=hid hr;have R':=hid hr';have y2:=hr.h2;have y2':=hr'.h2;clear hr hr';have e0:=(Ext.refl w).drew;go_enter Tryz.func41,Tryz.ntmps41;go_wp2_with fail
 go_region_held3 (fun w'=>w'.cell? ⟨B1,o1+2,none⟩=some (.slice A1 n1 c1)/\w'.cell? ⟨B2,o2+2,none⟩=some (.slice A1' n1' c1'))
  (first | go_keep | exact⟨p2,p2'⟩ | exact⟨q2,q2'⟩ | exact⟨z2,z2'⟩)
  (first
   | (go_at_call 72;((with_reducible refine (T1.out _ e0).mono ?_);rintro e w1 ⟨⟨X1,d1,rfl,s1⟩,x1⟩;have e1:=e0.trans x1;have p2:=e1.cell y2;have p2':=e1.cell y2'))
   | (go_at_call 72;((with_reducible refine (T2.out _ e1).mono ?_);rintro e w2 ⟨⟨X2,d2,rfl,s2⟩,x2⟩;have e2:=e1.trans x2;have q2:=e2.cell y2;have q2':=e2.cell y2'))
   | (go_at_call 71;((with_reducible refine (within_any X1 n1' d1 _ X2 n1 d2 _ w2 (s1.ext x2) s2 (okSets_rev okb.b) (okSets_rev oka.b) (by omega) (by omega)).mono ?_);rintro e w3 ⟨rfl,x3⟩;have e3:=e2.trans x3;have z2:=e3.cell y2;have z2':=e3.cell y2')))
 clear p2 p2' q2 q2' z2 z2' y2 y2' e0 e1 e2 x1 x2 x3 s1 s2 T1 T2;have R3:=hid (R.out.ext e3);have R3':=hid (R'.out.ext e3);have y3:=R3.out.h3;have y3':=R3'.out.h3;have y4:=R3.out.h4;have y4':=R3'.out.h4;have kx:=keepX_sl (sz:=1) (ok:=fun b=>b<w.heap.size) (keep_setB w.heap.size).x;have zb:=fun W (e:Ext w W)=>sets2_new A2' A3' n2' c2' n3' c3' b.source b.after 59 w.heap.size (((sets_lt V'.out.source).ext (keep_setB _) e)) ((sets_lt V'.out.after).ext (keep_setB _) e);have za:=fun W (e:Ext w W)=>sets2_new A2 A3 n2 c2 n3 c3 a.source a.after 59 w.heap.size (((sets_lt V.out.source).ext (keep_setB _) e)) ((sets_lt V.out.after).ext (keep_setB _) e);have hb1:=(zb w3 e3).extX kx (Ext.refl _).drew;have hb2:=(zb w3 e3).extX kx ((Ext.refl _).alloc (.cells #[.slice A2 n2 c2,.slice A3 n3 c3] 59)).drew;have hb3:=(zb _ (e3.alloc (.cells #[.slice A2 n2 c2,.slice A3 n3 c3] 59))).extX kx (Ext.refl _).drew;have ha2:=(za _ (e3.alloc (.cells #[.slice A2' n2' c2',.slice A3' n3' c3'] 59))).extX kx (Ext.refl _).drew;have ha3:=(za w3 e3).extX kx ((Ext.refl _).alloc (.cells #[.slice A2' n2' c2',.slice A3' n3' c3'] 59)).drew;rw[World.size_alloc] at hb3 ha2;have lb:[b.source,b.after].flatten.length<=60000:=by simp;rw[V'.out.source.len,V'.out.after.len];omega
 have la:[a.source,a.after].flatten.length<=60000:=by simp;rw[V.out.source.len,V.out.after.len];omega
 have D1:=((Ext.refl w3).alloc (.cells #[.slice A2' n2' c2',.slice A3' n3' c3'] 59)).drew;have D2:=(((Ext.refl w3).alloc (.cells #[.slice A2' n2' c2',.slice A3' n3' c3'] 59)).alloc (.cells #[.slice A2 n2 c2,.slice A3 n3 c3] 59)).drew;have D3:=(((Ext.refl w3).alloc (.cells #[.slice A2 n2 c2,.slice A3 n3 c3] 59)).alloc (.cells #[.slice A2' n2' c2',.slice A3' n3' c3'] 59)).drew;have hw3:=e3.size;have C1:=hid (Concat_set (one_sl _ _ _) (keep_setB w.heap.size) _ 2 2 _ _ hb1 lb (fun g hg=>by simp at hg;omega));have C2:=hid (Concat_set (one_sl _ _ _) (keep_setB w.heap.size) _ 2 2 _ _ hb2 lb (fun g hg=>by simp at hg;omega));have C3:=hid (Concat_set (one_sl _ _ _) (keep_setB w.heap.size) _ 2 2 _ _ hb3 lb (fun g hg=>by simp at hg;omega));have G1:=hid (fun W (e:Ext w W)=>Concat_set (one_sl _ _ _) (keep_setB w.heap.size) _ 2 2 _ _ (za W e) la (fun g hg=>by have h1:=e.size;simp at h1 hg;omega));have G2:=hid (fun W e=>Concat_set (one_sl _ _ _) (keep_setB w.heap.size) _ 2 2 _ W (ha2.extX kx e) la (fun g hg=>by have h1:=e.size;simp at h1;omega));have G3:=hid (fun W e=>Concat_set (one_sl _ _ _) (keep_setB w.heap.size) _ 2 2 _ W (ha3.extX kx e) la (fun g hg=>by have h1:=e.size;simp at h1;omega));have hL1:b.source.length+b.after.length<=40:=by rw[V'.out.source.len,V'.out.after.len];omega
 have hL2:a.source.length+a.after.length<=40:=by rw[V.out.source.len,V.out.after.len];omega
 clear hb1 hb2 hb3 ha2 ha3 lb la kx za zb hw3;go_wp2_with fail;go_cut [6] from 20 to 40 (fun v6 wx=>v6=.bool (within (b.source++b.after) (a.source++a.after))/\Ext w3 wx)
 case first=>
  go_region_held3 (fun w'=>w'.cell? ⟨B1,o1+3,none⟩=some (.slice A2 n2 c2)/\w'.cell? ⟨B1,o1+4,none⟩=some (.slice A3 n3 c3)/\w'.cell? ⟨B2,o2+3,none⟩=some (.slice A2' n2' c2')/\w'.cell? ⟨B2,o2+4,none⟩=some (.slice A3' n3' c3'))
   (first | go_keep | exact⟨p3,p4,p3',p4'⟩ | exact⟨q3,q4,q3',q4'⟩ | exact⟨z3,z4,z3',z4'⟩)
   (first
    | (go_at_call 73;((with_reducible refine C1.out.mono ?_);rintro e w4 ⟨v4,rfl,o4,x4⟩;have f1:=D1.trans x4;have p3:=f1.cell y3;have p4:=f1.cell y4;have p3':=f1.cell y3';have p4':=f1.cell y4';have g1:=e3.trans f1;obtain⟨X1,d1,rfl,s1⟩:=o4.top;simp only[List.flatten_cons,List.flatten_nil,List.append_nil,List.length_append] at s1))
    | (go_at_call 73;((with_reducible refine C2.out.mono ?_);rintro e w4 ⟨v4,rfl,o4,x4⟩;have f1:=D2.trans x4;have p3:=f1.cell y3;have p4:=f1.cell y4;have p3':=f1.cell y3';have p4':=f1.cell y4';have g1:=e3.trans f1;obtain⟨X1,d1,rfl,s1⟩:=o4.top;simp only[List.flatten_cons,List.flatten_nil,List.append_nil,List.length_append] at s1))
    | (go_at_call 73;((with_reducible refine C3.out.mono ?_);rintro e w4 ⟨v4,rfl,o4,x4⟩;have f1:=D3.trans x4;have p3:=f1.cell y3;have p4:=f1.cell y4;have p3':=f1.cell y3';have p4':=f1.cell y4';have g1:=e3.trans f1;obtain⟨X1,d1,rfl,s1⟩:=o4.top;simp only[List.flatten_cons,List.flatten_nil,List.append_nil,List.length_append] at s1))
    | (go_at_call 73;((with_reducible refine (G1.out _ g1).mono ?_);rintro e w5 ⟨v5,rfl,o5,x5⟩;have x5a:Ext w4 w5:=((Ext.refl w4).alloc (.cells #[.slice A2 n2 c2,.slice A3 n3 c3] 59)).trans x5;have f2:=f1.trans x5a;have q3:=f2.cell y3;have q4:=f2.cell y4;have q3':=f2.cell y3';have q4':=f2.cell y4';have g2:=g1.trans x5a;obtain⟨X2,d2,rfl,s2⟩:=o5.top;simp only[List.flatten_cons,List.flatten_nil,List.append_nil,List.length_append] at s2))
    | (go_at_call 73;((with_reducible refine (G2.out _ x4).mono ?_);rintro e w5 ⟨v5,rfl,o5,x5⟩;have x5a:Ext w4 w5:=x5;have f2:=f1.trans x5a;have q3:=f2.cell y3;have q4:=f2.cell y4;have q3':=f2.cell y3';have q4':=f2.cell y4';have g2:=g1.trans x5a;obtain⟨X2,d2,rfl,s2⟩:=o5.top;simp only[List.flatten_cons,List.flatten_nil,List.append_nil,List.length_append] at s2))
    | (go_at_call 73;((with_reducible refine (G3.out _ x4).mono ?_);rintro e w5 ⟨v5,rfl,o5,x5⟩;have x5a:Ext w4 w5:=x5;have f2:=f1.trans x5a;have q3:=f2.cell y3;have q4:=f2.cell y4;have q3':=f2.cell y3';have q4':=f2.cell y4';have g2:=g1.trans x5a;obtain⟨X2,d2,rfl,s2⟩:=o5.top;simp only[List.flatten_cons,List.flatten_nil,List.append_nil,List.length_append] at s2))
    | (go_at_call 71;((with_reducible refine (within_any X1 _ d1 _ X2 _ d2 _ w5 ((sets_top s1).ext x5a) (sets_top s2) (okSets_app okb.s okb.a) (okSets_app oka.s oka.a) hL1 hL2).mono ?_);rintro e w6 ⟨rfl,x6⟩;have f3:=f2.trans x6;have z3:=f3.cell y3;have z4:=f3.cell y4;have z3':=f3.cell y3';have z4':=f3.cell y4';have g3:=g2.trans x6)))
  all_goals (go_wp2_with fail;go_meet;exact⟨rfl,f3⟩)
 case rest=>
  obtain⟨rfl,hcx⟩:=hcut;have g3:=e3.trans hcx;clear C1 C2 C3 G1 G2 G3 D1 D2 D3 y3 y3' y4 y4' R3 R3' hcx e3;generalize within b.before.reverse a.before.reverse=x1 at *;generalize within (b.source++b.after) (a.source++a.after)=x2 at *;obtain⟨r0,r1,r2,r3,r4,_,_⟩:=R.out.ext g3;obtain⟨r0',r1',r2',r3',r4',_,_⟩:=R'.out.ext g3;clear V V' R R' oka okb;have hw1:IntKind.i64.wrap ((n2:Int)+n3)=(n2:Int)+n3:=IntWalk.i64_in _ (by omega);have hw2:IntKind.i64.wrap ((n2':Int)+n3')=(n2':Int)+n3':=IntWalk.i64_in _ (by omega)
  have hS:s=false\/(s=true/\s'=false)\/(s=true/\s'=true/\((n1:Int)==(n1':Int))=true)\/(s=true/\s'=true/\((n1:Int)==(n1':Int))=false):=by
   cases s <;> cases s' <;> simp[<- Bool.not_eq_true,Classical.em]
  have hF:f=false\/(f=true/\f'=false)\/(f=true/\f'=true/\((n2:Int)+n3==(n2':Int)+n3')=true)\/(f=true/\f'=true/\((n2:Int)+n3==(n2':Int)+n3')=false):=by
   cases f <;> cases f' <;> simp[<- Bool.not_eq_true,Classical.em]
  rcases hS with rfl | ⟨rfl,rfl⟩ | ⟨rfl,rfl,t1⟩ | ⟨rfl,rfl,t1⟩ <;> rcases hF with rfl | ⟨rfl,rfl⟩ | ⟨rfl,rfl,t2⟩ | ⟨rfl,rfl,t2⟩
  all_goals
   go_wp2_with fail;go_quiet (fail);go_wp2_with fail;go_quiet (fail);clear hw1 hw2;cases x1 <;> cases x2
   all_goals
    go_wp2;go_ret;rw[HM.out];exact⟨by simp[*],g3.drewN _⟩
theorem ContainsRule_any (A:Option Addr) (n c:Nat) (l:List Rule) (w:World) (g:FuncId) (caps:Array Value) (p:Rule->Bool)
  (eg:∀ args w,(callFunc g args).run Tryz.prog w=.ok (.enter g args) w) (hp:PredRule g caps p l w) (h:Rules w A n c l) :
  Calls Tryz.prog 39 #[.slice A n c,.func (.func g) #[] caps] w fun e w'=>e=.returned (.bool (l.any p))/\Ext w w':=by
 have HC:=hid (IndexRule_any A n c l w g caps p eg hp h);have hm:=h.max;unfold maxLen at hm;have hb:=idxFrom_le p 0 l;have hg:=hid (idxFrom_geq p 0 l);clear eg hp h;generalize idxFrom p 0 l=z at *;go_enter Tryz.func39,Tryz.ntmps39;go_wp2_with (go_at_call 64;refine HC.out.mono ?_;rintro e w' ⟨rfl,hx⟩);go_ret;rw[<- hg.out];exact⟨rfl,hx⟩
end Go.Proofs.YthomjcjnalfipaaGreatDoor
namespace Go.Proofs.YthomjcjnalfipaaGreatDoor
open Go.RowKit
theorem T_rule:ElemT Tryz.prog 40 61 7 112:=elemT Tryz.underlying40 (z:=.agg #[.bool false,.bool false,.slice none 0 0,.slice none 0 0,.slice none 0 0,.slice none 0 0,.int .i64 0]) (by kernel_rfl) rfl (by omega)
theorem maskAt_any (B1 B2:Nat) (s f:Bool) (A1:Option Addr) (n1 c1:Nat) (A2:Option Addr) (n2 c2:Nat) (A3:Option Addr) (n3 c3:Nat) (A4:Option Addr) (n4 c4:Nat) (q:Int) (r:Rule) (w:World) (hv:RuleV w s f A1 n1 c1 A2 n2 c2 A3 n3 c3 A4 n4 c4 q r)
  (A:Option Addr) (n c:Nat) (l:List Rule) (h:Rules w A n c l) (i:Nat) (b:Rule) (hb:l[i]? =some b) (okr:OkRule r) (okb:OkRule b)
  (h0:w.cell? ⟨B1,0,none⟩=some (.slice A n c)) (h1:w.cell? ⟨B2,0,none⟩=some (.int .i64 i)) :
  Calls Tryz.prog 40 #[.agg #[.bool s,.bool f,.slice A1 n1 c1,.slice A2 n2 c2,.slice A3 n3 c3,.slice A4 n4 c4,.int .i64 q],.pointer (some ⟨B1,0,none⟩),.pointer (some ⟨B2,0,none⟩)] w
   fun e w'=>e=.returned (.bool (masksB r b))/\Ext w w':=by
 have hm:=h.max;unfold maxLen at hm;have hcap:=h.cap;have hi:i<n:=by rw[<- h.len];exact lt_of_get hb
 have e1:=(Ext.refl w).alloc (.cells #[.bool s,.bool f,.slice A1 n1 c1,.slice A2 n2 c2,.slice A3 n3 c3,.slice A4 n4 c4,.int .i64 q] 61);have r1:=RuleAt.new (s:=s) (f:=f) (A1:=A1) (n1:=n1) (c1:=c1) (A2:=A2) (n2:=n2) (c2:=c2) (A3:=A3) (n3:=n3) (c3:=c3) (A4:=A4) (n4:=n4) (c4:=c4) (q:=q) w 61;obtain⟨b1,o1,s',f',A1',n1',c1',A2',n2',c2',A3',n3',c3',A4',n4',c4',q',rfl,⟨_,hne⟩,hv',k0,k1,k2,k3,k4,k5,k6⟩:=h.rule hb
 have HC:=hid (masks_any w.heap.size 0 b1 (o1+i*7) r b _ ⟨s,f,A1,n1,c1,A2,n2,c2,A3,n3,c3,A4,n4,c4,q,r1,hv.ext (e1.agree top)⟩
  ⟨s',f',A1',n1',c1',A2',n2',c2',A3',n3',c3',A4',n4',c4',q',⟨e1.cell k0,e1.cell k1,e1.cell k2,e1.cell k3,e1.cell k4,e1.cell k5,e1.cell k6⟩,hv'.ext (e1.agree top)⟩ okr okb)
 have z0:=e1.cell h0;have z1:=e1.cell h1;have p0:=World.block_lt_of_cell? _ _ h0;have p1:=World.block_lt_of_cell? _ _ h1;clear hv hv' r1 hb k0 k1 k2 k3 k4 k5 k6;have hi':(i:Int)<(n:Int):=by omega
 go_enter Tryz.func40,Tryz.ntmps40;go_wp2_with (go_at_call 41;refine HC.out.mono ?_;rintro e w1 ⟨rfl,hx⟩);go_ret;exact⟨rfl,e1.trans hx⟩
def MaskedR (base:Nat) (l:List Rule) (w':World) (e:Ending):Prop:=
 ∃ A c,e=.returned (.tuple #[.slice A (maskedTo l l.length).length c,.agg #[.int .i64 0,.int .i64 0]])/\SlR rInt 1 (fun b=>base<=b) w' A (maskedTo l l.length).length c ((maskedTo l l.length).map fun i:Nat=>(i:Int))
theorem Masked_ok (A:Option Addr) (n c:Nat) (l:List Rule) (w:World) (h:Rules w A n c l) (hr:(wrongRules l).1=0) :
  Calls Tryz.prog 21 #[.slice A n c] w fun e w'=>MaskedR w.heap.size l w' e/\Ext w w':=by
 obtain⟨hr0,hl2,hok⟩:=wrongRules_zero hr;rw[h.len] at hl2;have hcap:=h.cap;have hlen:=hid h.len;have HR:=hid hr0;have OK:=hid hok;clear hr hr0 hok;have hmf:∀ (fn:Fn) (first cap:Array Value) (w:World),(Instr.makeFunc fn first cap).run Tryz.prog w=.ok (.func fn first cap) w:=fun _ _ _ _=>rfl;have eg:∀ args w,(callFunc 40 args).run Tryz.prog w=.ok (.enter 40 args) w:=enters Tryz.func40 (by kernel_rfl) rfl;have e1:Ext w ((w.alloc (.cells #[.slice A n c] 40)).alloc (.cells #[.int .i64 0,.int .i64 0] 34)):=((Ext.refl w).alloc _).alloc _;have k0:((w.alloc (.cells #[.slice A n c] 40)).alloc (.cells #[.int .i64 0,.int .i64 0] 34)).cell? ⟨w.heap.size,0,none⟩=some (.slice A n c):=by simp
 have k1:((w.alloc (.cells #[.slice A n c] 40)).alloc (.cells #[.int .i64 0,.int .i64 0] 34)).cell? ⟨w.heap.size+1,0,none⟩=some (.int .i64 0):=by simp
 have k2:((w.alloc (.cells #[.slice A n c] 40)).alloc (.cells #[.int .i64 0,.int .i64 0] 34)).cell? ⟨w.heap.size+1,1,none⟩=some (.int .i64 0):=by simp
 have wb:=Wr.new (w.alloc (.cells #[.slice A n c] 40)) #[.int .i64 0,.int .i64 0] 34;rw[World.size_alloc] at wb;have hs0:w.heap.size+2<=((w.alloc (.cells #[.slice A n c] 40)).alloc (.cells #[.int .i64 0,.int .i64 0] 34)).heap.size:=by simp
 have HC:=hid (Wrongs_any A n c l _ (h.ext e1));go_enter Tryz.func21,Tryz.ntmps21;go_wp2_with fail;generalize (w.alloc (.cells #[.slice A n c] 40)).alloc (.cells #[.int .i64 0,.int .i64 0] 34)=w1 at *;go_wp2_with (go_at_call 28;refine HC.out.mono ?_;rintro e w2 ⟨rfl,hx2⟩;rw[HR.out];have x12:=hx2.alloc (.cells #[.int .i64 0,.int .i64 0] 34);have j0:=hx2.cell k0;have j1:w.heap.size<w2.heap.size:=by have:=hx2.size;omega);have o0:=OwnR.nil rInt 3 1 w1.heap.size (w2.alloc (.cells #[.int .i64 0,.int .i64 0] 34));clear HC j0 j1;generalize w2.alloc (.cells #[.int .i64 0,.int .i64 0] 34)=w3 at *;go_loopw [5,15] (fun v i wr=>∃ k:Nat,k<=n/\i=.int .i64 k/\OwnR rInt 3 1 w1.heap.size wr v ((maskedTo l k).map fun i:Nat=>(i:Int))/\Ext w1 wr) (fun _ i _=>n-(intOf i).toNat);case atStart=>exact⟨0,by omega,rfl,o0,x12⟩
 case round=>
  obtain⟨k,hk,rfl,ow,hx⟩:=hrel;have ex:=e1.trans hx;have y0:=hx.cell k0;have y1:=hx.cell k1;have y2:=hx.cell k2;have yz:=(wb.ext hx).2;have hw0:w.heap.size+2<=wr.heap.size:=by have:=hx.size;omega
  have hw1:w.heap.size<wr.heap.size:=by omega
  have hw2:w.heap.size+1<wr.heap.size:=by omega
  by_cases hlt:k<n
  ·obtain⟨b,hbb⟩:=h.idx hlt;have okb:=OK.out b (List.mem_of_getElem? hbb);have ea:=(Ext.refl wr).alloc (.cells #[.int .i64 k] 3);have exa:=ex.trans ea;have z0:=ea.cell y0;have z1:=cell_new wr #[.int .i64 k] 3 0 (.int .i64 k) rfl
   have hp:PredRule 40 #[.pointer (some ⟨w.heap.size,0,none⟩),.pointer (some ⟨wr.heap.size,0,none⟩)] (fun a=>masksB a b) (l.take k) (wr.alloc (.cells #[.int .i64 k] 3)):=by
    intro W s f A1 n1 c1 A2 n2 c2 A3 n3 c3 A4 n4 c4 q r hW hv hr;exact maskAt_any _ _ s f A1 n1 c1 A2 n2 c2 A3 n3 c3 A4 n4 c4 q r W hv A n c l (h.ext (exa.trans hW)) k b hbb (OK.out r (List.mem_of_mem_take hr)) okb (hW.cell z0) (hW.cell z1)
   have HC:=hid (ContainsRule_any A k c (l.take k) _ _ _ _ eg hp ((h.ext exa).take (by omega)));have HM:=hid (isMasked_at hbb);have Z1:=hid z1;have hs1:=fun W=>run_cut_h T_rule A n c (k:Int) k rfl (by omega) W;clear hp hbb okb z0 z1;cases hm:isMasked l k
   ·have HMk:=hid (maskedTo_no hm);have HM2:=hid hm;clear hm;go_wp2_with (go_at_call 39;refine HC.out.mono ?_;rintro e w4 ⟨rfl,hx4⟩;rw[<- HM.out,HM2.out]);go_roundw;case rel=>exact⟨k+1,by omega,by go_num,by rw[HMk.out];exact ow.ext (keep_int bot) (ea.trans hx4),hx.trans (ea.trans hx4)⟩
    case measure=>simp[intOf];omega
   ·have HMk:=hid (maskedTo_yes hm);have HM2:=hid hm;clear hm;have hml:=maskedTo_len l k
    go_wp2_with (first
     | (go_at_call 39;refine HC.out.mono ?_;rintro e w4 ⟨rfl,hx4⟩;rw[<- HM.out,HM2.out];have v1:=hx4.cell Z1.out;have f4:=ea.trans hx4;have ow4:=ow.ext (keep_int bot) f4;have f5:=f4.alloc (.cells #[.int .i64 k] 3);have s5:=one_newI w4 k 3 (by unfold i64;omega);have ow5:=ow4.ext (keep_int bot) ((Ext.refl w4).alloc (.cells #[.int .i64 k] 3));have g5:=hx.trans f5)
     | (at_builtin
        refine wpList_appS T_int (by omega) rfl (.tmp 23) (.tmp 25) rfl rfl ow5 rfl s5 (fun _ _ h=>h) one_int (keep_int bot) (bot_no _) ?_ g5.size ?_
        ·rw[List.length_map];omega
        intro v6 w6 o6 g6 hat6
        have g7:=g5.app g6 ow5))
    go_roundw;case rel=>exact⟨k+1,by omega,by go_num,by rw[HMk.out,List.map_append];exact o6,g7⟩
    case measure=>simp[intOf];omega
  ·have e:k=n:=by omega
   subst e;obtain⟨AO,cO,rfl,sO⟩:=ow.sl;go_wp2;simp only[List.length_map] at sO;refine bodyPost_ret (v:=.tuple #[.slice AO (maskedTo l k).length cO,.agg #[.int .i64 0,.int .i64 0]]) (by simp[results,Tryz.results21,go_sem,y1,y2]) rfl ?_;refine⟨⟨AO,cO,by rw[hlen.out],?_⟩,ext_set (ext_set ex (by omega) _ _) (by omega) _ _⟩;rw[hlen.out];exact ((sO.far (keep_int _) (fun b hb=>by omega)).far (keep_int _) (fun b hb=>by omega)).mono (fun _ _ h=>h) (fun b hb=>by omega)
end Go.Proofs.YthomjcjnalfipaaGreatDoor
namespace Go.Proofs.YthomjcjnalfipaaGreatDoor
theorem wrongPs_of:∀ {ps:List Pas} {k:Nat},(∀ p∈ps,wrongPas p=0)->wrongPs k ps=(0,0)
 | [],k,_=>rfl
 | q::ps,k,h=>by
  unfold wrongPs;rw[if_neg (by rw[h q (by simp)];simp)];exact wrongPs_of fun p hp=>h p (by simp[hp])
theorem wrongPas_rules {p:Pas} (h:wrongPas p=0):wrongRules p.rules=(0,0)/\(p.name≠ .empty->p.rules=[]):=by
 unfold wrongPas at h;by_cases h1:p.name=.empty
 ·rw[if_pos h1] at h;exact⟨(wrongRules_zero h).1,fun hn=>absurd h1 hn⟩
 ·rw[if_neg h1] at h;by_cases h2:(!(passS.any fun x=>decide (p.name=x)))=true
  ·rw[if_pos h2] at h;simp at h
  ·rw[if_neg h2] at h;by_cases h3:0<p.rules.length
   ·rw[if_pos h3] at h;simp at h
   ·have:p.rules=[]:=List.eq_nil_of_length_eq_zero (by omega);exact⟨by rw[this];rfl,fun _=>this⟩
end Go.Proofs.YthomjcjnalfipaaGreatDoor
namespace Go.Proofs.YthomjcjnalfipaaGreatDoor
open Go.RowKit
theorem scriptF_wrong {s:ByteArray} {S:Script} (h:scriptF s=some S):(wrongScript S).1=0:=by
 unfold scriptF at h;split at h
 ·cases h
 ·split at h
  ·cases h
  ·split at h
   ·cases h
   ·rename_i h3;cases h;exact Decidable.not_not.1 h3
structure Duo (ok:Nat->Prop) (m0 lo:Nat) (w:World) (va vp:Value) (la:List Rule) (lp:List Pas):Prop where
 ra:OwnR (rRuleO ok) 61 7 lo w va la
 rp:OwnR (rPas ok) 42 2 lo w vp lp
 hok:∀ i,ok i->i<w.heap.size/\(i<m0\/lo<=i)
 na:∀ g,va.ownBlock=some g->¬ ok g
 np:∀ g,vp.ownBlock=some g->¬ ok g
 dap:∀ g,va.ownBlock=some g->vp.ownBlock≠some g
section
variable {ok ok' : Nat -> Prop} {m0 lo : Nat} {w w' : World} {va vp : Value} {la : List Rule} {lp : List Pas}
theorem Duo.agree (F:Duo ok m0 lo w va vp la lp) (ha:Agree (fun b=>ok b\/va.ownBlock=some b\/vp.ownBlock=some b) w w') (hs:w.heap.size<=w'.heap.size):Duo ok m0 lo w' va vp la lp:=
 ⟨F.ra.keep (keep_ruleO ok) (ha.mono fun b hb=>.inl hb) (fun g hg=>ha g (.inr (.inl hg)) (F.ra.lt g hg).2),F.rp.keep (keep_pas ok) (ha.mono fun b hb=>.inl hb) (fun g hg=>ha g (.inr (.inr hg)) (F.rp.lt g hg).2),
  fun i hi=>⟨Nat.lt_of_lt_of_le (F.hok i hi).1 hs,(F.hok i hi).2⟩,F.na,F.np,F.dap⟩
theorem Duo.ext (F:Duo ok m0 lo w va vp la lp) (e:Ext w w'):Duo ok m0 lo w' va vp la lp:=F.agree (e.agree _) e.size
theorem Duo.off (F:Duo ok m0 lo w va vp la lp) {b:Nat} (h1:¬ ok b) (h2:va.ownBlock≠some b) (h3:vp.ownBlock≠some b) (o:Nat) (x:Value):Duo ok m0 lo (w.setCell ⟨b,o,none⟩ x) va vp la lp:=
 F.agree ((agree_set b o w x).mono fun i hi e=>by subst e;exact hi.elim h1 (fun h=>h.elim h2 h3)) (by rw[size_set];exact Nat.le_refl _)
theorem Duo.put_p (F:Duo ok m0 lo w va vp la lp) {vp':Value} {lp':List Pas} (o:OwnR (rPas ok) 42 2 lo w' vp' lp') (hg:w.grownBy w' vp.ownBlock) (hat:vp'.ownBlock=vp.ownBlock\/vp'.ownBlock=some w.heap.size):Duo ok m0 lo w' va vp' la lp':=by
 have ha:Agree ok w w':=fun b hb hlt=>hg.block b hlt (fun e=>F.np b e.symm hb);refine⟨F.ra.keep (keep_ruleO ok) ha (fun g hgy=>hg.block g (F.ra.lt g hgy).2 (fun e=>F.dap g hgy e.symm)),o,fun i hi=>⟨Nat.lt_of_lt_of_le (F.hok i hi).1 hg.size,(F.hok i hi).2⟩,F.na,fun g hgv hk=>?_,fun g hga hgv=>?_⟩
 ·rcases hat with e | e
  ·exact F.np g (e▸hgv) hk
  ·have:=(F.hok g hk).1;rw[e] at hgv;cases hgv;omega
 ·rcases hat with e | e
  ·exact F.dap g hga (e▸hgv)
  ·have:=(F.ra.lt g hga).2;rw[e] at hgv;cases hgv;omega
theorem Duo.more (F:Duo ok m0 lo w va vp la lp) {tk:Nat->Prop} (ht:∀ i,tk i->i<w.heap.size/\(i<m0\/lo<=i)/\va.ownBlock≠some i/\vp.ownBlock≠some i):Duo (fun i=>ok i\/tk i) m0 lo w va vp la lp:=
 ⟨F.ra.weaken (fun vs x hx=>mono_ruleO (fun b hb=>.inl hb) hx),F.rp.weaken (fun vs x hx=>mono_pas (fun b hb=>.inl hb) hx),fun i hi=>hi.elim (F.hok i) (fun h=>⟨(ht i h).1,(ht i h).2.1⟩),
  fun g hg hi=>hi.elim (F.na g hg) (fun h=>(ht g h).2.2.1 hg),fun g hg hi=>hi.elim (F.np g hg) (fun h=>(ht g h).2.2.2 hg),F.dap⟩
theorem Duo.start (m0 lo:Nat) (w:World) (h:m0<=w.heap.size):Duo (fun b=>b<m0) m0 lo w (.slice none 0 0) (.slice none 0 0) [] []:=
 ⟨OwnR.nil _ _ _ _ _,OwnR.nil _ _ _ _ _,fun i hi=>⟨by omega,.inl hi⟩,fun g hg=>(by cases hg),fun g hg=>(by cases hg),fun g hg=>(by cases hg)⟩
end
end Go.Proofs.YthomjcjnalfipaaGreatDoor
namespace Go.Proofs.YthomjcjnalfipaaGreatDoor
theorem rulesAt_ge {e:Int}:∀ {l:List Rule} {k:Nat} {x:Int},x∈rulesAt k l e->(k:Int)<=x
 | [],k,x,h=>by cases h
 | r::l,k,x,h=>by
  unfold rulesAt at h;split at h
  ·rcases List.mem_cons.1 h with rfl | h
   ·omega
   ·have:=rulesAt_ge h;omega
  ·have:=rulesAt_ge h;omega
theorem rulesAt_eq {e e':Int}:∀ {l:List Rule} {k:Nat},rulesAt k l e=rulesAt k l e'->∀ r∈l,has (r.source.headD []) e=has (r.source.headD []) e'
 | [],k,h,r,hr=>by cases hr
 | q::l,k,h,r,hr=>by
  unfold rulesAt at h;cases h1:has (q.source.headD []) e <;> cases h2:has (q.source.headD []) e' <;> rw[h1,h2] at h
  ·simp only[Bool.false_eq_true,if_false] at h;rcases List.mem_cons.1 hr with rfl | hr
   ·rw[h1,h2]
   ·exact rulesAt_eq h r hr
  ·simp only[Bool.false_eq_true,if_false,if_true] at h;have:(k:Int)∈rulesAt (k+1) l e:=by rw[h];simp
   have:=rulesAt_ge this;omega
  ·simp only[Bool.false_eq_true,if_false,if_true] at h;have:(k:Int)∈rulesAt (k+1) l e':=by rw[<- h];simp
   have:=rulesAt_ge this;omega
  ·simp only[if_true] at h;rcases List.mem_cons.1 hr with rfl | hr
   ·rw[h1,h2]
   ·exact rulesAt_eq (List.cons.inj h).2 r hr
theorem rulesAt_of {e e':Int}:∀ {l:List Rule} {k:Nat},(∀ r∈l,has (r.source.headD []) e=has (r.source.headD []) e')->rulesAt k l e=rulesAt k l e'
 | [],k,h=>rfl
 | q::l,k,h=>by
  unfold rulesAt;rw[h q (by simp),rulesAt_of fun r hr=>h r (by simp[hr])]
def chg (f:Int->List Int):Option Int->List Int->Nat
 | _,[]=>0
 | p,x::xs=>(if p.map f=some (f x) then 0 else 1)+chg f (some x) xs
theorem addH_len {o:List Hd} {h:Hd}:(addH o h).length=o.length+(if o.getLast?.map (·.rules)=some h.rules then 0 else 1)/\(addH o h).getLast?.map (·.rules)=some h.rules:=by
 rcases List.eq_nil_or_concat o with rfl | ⟨o',p,rfl⟩
 ·exact⟨rfl,rfl⟩
 ·rw[List.concat_eq_append,addH_last];by_cases hp:p.rules=h.rules
  ·rw[if_pos hp];simp[hp]
  ·rw[if_neg hp];simp[hp]
theorem headsGo_len {l:List Rule}:∀ {es:List Int} {out:List Hd} {q:Option Int},Up es->out.getLast?.map (·.rules)=q.map (rulesAt 0 l) ->
  (headsGo l es out).length=out.length+chg (rulesAt 0 l) q (es.filter fun e=>decide (e<=1114111))
 | [],out,q,_,_=>rfl
 | e::es,out,q,hu,hq=>by
  have hu:=List.pairwise_cons.1 hu;unfold headsGo;by_cases he:e > 1114111
  ·rw[if_pos he,List.filter_eq_nil_iff.2]
   ·rfl
   ·intro x hx;simp only[decide_eq_true_eq];rcases List.mem_cons.1 hx with rfl | hx
    ·omega
    ·have:=hu.1 x hx;omega
  ·rw[if_neg he,List.filter_cons_of_pos (by simpa using (by omega:e<=1114111))];obtain⟨h1,h2⟩:=addH_len (o:=out) (h:=⟨e,nextHi es,rulesAt 0 l e⟩);have h1':(addH out ⟨e,nextHi es,rulesAt 0 l e⟩).length=out.length+(if out.getLast?.map (·.rules)=some (rulesAt 0 l e) then 0 else 1):=h1;rw[headsGo_len (q:=some e) hu.2 h2,h1',hq,Nat.add_assoc];rfl
theorem chg_le {f g:Int->List Int} (h:∀ e e',f e=f e'->g e=g e') {A B:List Int} (hs:A.Sublist B):∀ (p:Option Int),chg g p A<=chg f p B:=by
 have hp:∀ (p:Option Int) (x:Int),p.map f=some (f x)->p.map g=some (g x):=fun p x e=>by
  cases p with
  | none=>cases e
  | some y=>
   simp only[Option.map_some,Option.some.injEq] at e ⊢;exact h y x e
 induction hs with
 | slnil=>intro p;exact Nat.le_refl _
 | @cons A B b hs ih=>
  intro p;have ih:=ih (some b);show _<=(if p.map f=some (f b) then 0 else 1)+chg f (some b) B
  have tri:chg g p A<=(if p.map f=some (f b) then 0 else 1)+chg g (some b) A:=by
   cases A with
   | nil=>exact Nat.zero_le _
   | cons a A=>
    show (if p.map g=some (g a) then 0 else 1)+chg g (some a) A<=_+((if (some b).map g=some (g a) then 0 else 1)+chg g (some a) A);by_cases hb:p.map f=some (f b)
    ·have:=hp p b hb;rw[if_pos hb,this,Option.map_some];omega
    ·rw[if_neg hb];split <;> split <;> omega
  omega
 | @cons_cons A B a hs ih=>
  intro p;have ih:=ih (some a);show (if p.map g=some (g a) then 0 else 1)+chg g (some a) A<=(if p.map f=some (f a) then 0 else 1)+chg f (some a) B;by_cases hb:p.map f=some (f a)
  ·rw[if_pos hb,if_pos (hp p a hb)];omega
  ·rw[if_neg hb];split <;> omega
theorem Up.sub:∀ {B A:List Int},Up A->Up B->(∀ x∈A,x∈B)->A.Sublist B
 | _,[],_,_,_=>List.nil_sublist _
 | [],a::A,_,_,h=>by have:=h a (by simp);cases this
 | b::B,a::A,ha,hb,h=>by
  have ha':=List.pairwise_cons.1 ha;have hb':=List.pairwise_cons.1 hb;rcases List.mem_cons.1 (h a (by simp)) with rfl | hm
  ·refine List.Sublist.cons_cons _ (Up.sub ha'.2 hb'.2 fun x hx=>?_);rcases List.mem_cons.1 (h x (by simp[hx])) with rfl | h2
   ·have:=ha'.1 _ hx;omega
   ·exact h2
  ·refine List.Sublist.cons _ (Up.sub ha hb'.2 fun x hx=>?_);rcases List.mem_cons.1 (h x hx) with rfl | h2
   ·rcases List.mem_cons.1 hx with rfl | hx
    ·have:=hb'.1 _ hm;omega
    ·have h3:=ha'.1 _ hx;have h4:=hb'.1 _ hm;omega
   ·exact h2
theorem heads_le {u s:List Rule} (h:∀ r∈u,r∈s):(headsF u).length<=(headsF s).length:=by
 have hm:∀ (l:List Rule) z,z∈edgesF l↔z=0\/z∈firstEdges l:=fun l z=>by unfold edgesF;rw[mem_upL,List.mem_cons]
 have hu:∀ l,Up (edgesF l):=fun l=>up_upL _;unfold headsF;rw[headsGo_len (q:=none) (hu u) rfl,headsGo_len (q:=none) (hu s) rfl];refine Nat.add_le_add_left (chg_le (fun e e' he=>rulesAt_of fun r hr=>rulesAt_eq he r (h r hr)) (List.Sublist.filter _ (Up.sub (hu u) (hu s) fun z hz=>?_)) none) _;rw[hm] at hz ⊢;rcases hz with hz | hz
 ·exact .inl hz
 ·right;unfold firstEdges at hz ⊢;rw[List.mem_flatMap] at hz ⊢;obtain⟨r,hr,hz⟩:=hz;exact⟨r,h r hr,hz⟩
def keepTo (l:List Rule) (k:Nat):List Rule:=(List.range k).filterMap fun i=>if isMasked l i then none else l[i]?
theorem keepTo_succ (l:List Rule) (k:Nat):keepTo l (k+1)=keepTo l k++(if isMasked l k then [] else l[k]?.toList):=by
 unfold keepTo;rw[List.range_succ,List.filterMap_append];congr 1;by_cases h:isMasked l k=true
 ·simp[h]
 ·simp only[List.filterMap_cons,List.filterMap_nil,if_neg h];cases l[k]? <;> rfl
theorem keepTo_mem {l:List Rule} {k:Nat} {r:Rule} (h:r∈keepTo l k):r∈l:=by
 unfold keepTo at h;rw[List.mem_filterMap] at h;obtain⟨i,_,hi⟩:=h;split at hi
 ·cases hi
 ·exact List.mem_of_getElem? hi
theorem keepTo_len (l:List Rule) (k:Nat):(keepTo l k).length<=k:=by
 unfold keepTo;have:=List.length_filterMap_le (fun i=>if isMasked l i then none else l[i]?) (List.range k);simpa using this
theorem keepTo_find {l:List Rule} {t:List Int} {a:Nat} (ha:a<=t.length):∀ (k:Nat),k<=l.length->(keepTo l k).find? (fun r=>here r t a)=(l.take k).find? fun r=>here r t a
 | 0,_=>by simp[keepTo]
 | k+1,hk=>by
  have ih:=keepTo_find (l:=l) ha k (by omega);obtain⟨b,hb⟩:∃ b,l[k]? =some b:=⟨_,List.getElem?_eq_getElem (by omega)⟩
  rw[keepTo_succ,take_snoc hb,List.find?_append,List.find?_append,ih,hb]
  cases hf:(l.take k).find? fun r=>here r t a with
  | some x=>rfl
  | none=>
   by_cases hm:isMasked l k=true
   ·rw[if_pos hm]
    have hn:here b t a=false:=by
     cases hh:here b t a with
     | false=>rfl
     | true=>
      rw[isMasked_at hb,List.any_eq_true] at hm;obtain⟨x,hx,hm⟩:=hm;rw[List.find?_eq_none] at hf;exact absurd (masks_here ha hm hh) (hf x hx)
    simp[hn]
   ·rw[if_neg hm];rfl
theorem keep_play (l:List Rule) (n:Nat) (p:Play):play (keepTo l l.length) n p=play l n p:=
 play_congr (fun q hq=>playStep_find (by rw[keepTo_find (Nat.le_of_lt hq) l.length (Nat.le_refl _),List.take_length])) n p
theorem keep_right' {l:List Rule} (h:(wrongRules l).1=0):wrongRules (keepTo l l.length)=(0,0):=by
 obtain⟨_,h2,h3⟩:=wrongRules_zero h;exact wrongRules_of (by have:=keepTo_len l l.length;omega) fun r hr=>wrong_of_ok (h3 r (keepTo_mem hr))
def keepP (p:Pas):Pas:=⟨p.name,keepTo p.rules p.rules.length⟩
theorem keep_vm {l:List Rule} (h:(wrongRules l).1=0) (t:List Int):(vmE l t).1=5\/(vmE (keepTo l l.length) t=vmE l t/\vmV (keepTo l l.length) t=vmV l t):=by
 have hk:(wrongRules (keepTo l l.length)).1=0:=by rw[keep_right' h]
 have hr:runText (keepTo l l.length) t=runText l t:=keep_play l _ _;by_cases hc:compE l≠0
 ·by_cases ht:(wrongText t)≠0
  ·right
   have e:vmE (keepTo l l.length) t=vmE l t:=by
    unfold vmE;rw[checkRun_text h,checkRun_text hk,if_pos ht,if_pos ht]
   refine⟨e,?_⟩;unfold vmV;rw[e,hr]
  ·left;unfold vmE;rw[checkRun_text h,if_neg ht,if_pos hc]
 ·right;have hc0:compE l=0:=Decidable.not_not.1 hc
  have hck:compE (keepTo l l.length)=0:=by
   unfold compE at hc0 ⊢;have:=heads_le (u:=keepTo l l.length) (s:=l) fun r hr=>keepTo_mem hr;by_cases h4:400<(headsF l).length
   ·rw[if_pos h4] at hc0;simp at hc0
   ·rw[if_neg (by omega)]
  have e:vmE (keepTo l l.length) t=vmE l t:=by
   unfold vmE;rw[checkRun_text h,checkRun_text hk,hc0,hck,hr]
  refine⟨e,?_⟩;unfold vmV;rw[e,hr]
theorem keep_pass {p:Pas} (h:(wrongRules p.rules).1=0) (t:List Int):(passF p t).2=5\/passF (keepP p) t=passF p t:=by
 obtain⟨n,rs⟩:=p;show _\/passF ⟨n,keepTo rs rs.length⟩ t=_;unfold passF;by_cases h1:n=upperS
 ·right;simp only[if_pos h1]
 by_cases h2:n=lowerS
 ·right;simp only[if_neg h1,if_pos h2]
 by_cases h3:n=removeS
 ·right;simp only[if_neg h1,if_neg h2,if_pos h3]
 by_cases h4:n=nullS
 ·right;simp only[if_neg h1,if_neg h2,if_neg h3,if_pos h4]
 simp only[if_neg h1,if_neg h2,if_neg h3,if_neg h4];exact (keep_vm h t).imp id fun ⟨h5,h6⟩=>by rw[h5,h6]
theorem keep_all:∀ {ps:List Pas} {k:Nat} {t:List Int},(∀ p∈ps,(wrongRules p.rules).1=0)->(allP k ps t).2.1=5\/allP k (ps.map keepP) t=allP k ps t
 | [],k,t,_=>.inr rfl
 | p::ps,k,t,h=>by
  rw[List.map_cons];unfold allP;rcases keep_pass (h p (by simp)) t with h5 | h5
  ·left;rw[if_pos (by rw[h5];simp)];exact h5
  ·rw[h5];by_cases hp:(passF p t).2≠0
   ·right;rw[if_pos hp,if_pos hp]
   ·rw[if_neg hp,if_neg hp];exact keep_all fun q hq=>h q (by simp[hq])
theorem keep_flush {s u:Script} (h:∀ p∈s.passes,(wrongRules p.rules).1=0) (hu:u.passes=s.passes.map keepP) (pc out:List Int):(∃ k,flushF s pc out=.inl (5,k))\/flushF u pc out=flushF s pc out:=by
 unfold flushF;rw[hu];by_cases hn:pc=[]
 ·right;rw[if_pos hn,if_pos hn]
 rw[if_neg hn,if_neg hn];rcases keep_all (ps:=s.passes) (k:=0) (t:=pc) h with h5 | h5
 ·left;rw[if_pos (by rw[h5];simp)];exact⟨(allP 0 s.passes pc).2.2,by rw[<- h5]⟩
 ·right;rw[h5]
theorem keep_goS {s u:Script} (h:∀ p∈s.passes,(wrongRules p.rules).1=0) (hu:u.passes=s.passes.map keepP) (hf:u.filt=s.filt) (ho:u.only=s.only):∀ {r pc out:List Int},(goS s r pc out).2.1=5\/goS u r pc out=goS s r pc out
 | [],pc,out=>by
  unfold goS;rcases keep_flush h hu pc out with ⟨k,h5⟩ | h5
  ·left;rw[h5]
  ·right;rw[h5]
   cases flushF s pc out with
   | inl e=>rfl
   | inr o=>
    show lastF u o=lastF s o;unfold lastF;rw[hu,List.length_map]
 | x::r,pc,out=>by
  have hm:meant u x=meant s x:=by unfold meant;rw[hf,ho]
  unfold goS;rw[hm];by_cases hx:meant s x=true
  ·rw[if_pos hx,if_pos hx];exact keep_goS h hu hf ho
  ·rw[if_neg hx,if_neg hx];rcases keep_flush h hu pc out with ⟨k,h5⟩ | h5
   ·left;rw[h5]
   ·rw[h5]
    cases flushF s pc out with
    | inl e=>right;rfl
    | inr o=>exact keep_goS h hu hf ho
theorem keep_wrong {s u:Script} (h:(wrongScript s).1=0) (hu:u.passes=s.passes.map keepP) (hf:u.filt=s.filt) (ho:u.only=s.only):wrongScript u=(0,0):=by
 obtain⟨_,h2,h3⟩:=wrongScript_zero h;have h1:¬ (s.filt=true/\wrongSet s.only≠0):=fun hh=>by unfold wrongScript at h;rw[if_pos hh] at h;exact absurd h hh.2
 unfold wrongScript;rw[hf,ho,if_neg h1,hu,List.length_map,if_neg (by omega)];refine wrongPs_of fun p hp=>?_;obtain⟨q,hq,rfl⟩:=List.mem_map.1 hp;have hw:=h3 q hq;have hr:=keep_right' (l:=q.rules) (by rw[(wrongPas_rules hw).1]);unfold wrongPas at hw ⊢;show (if q.name=.empty then (wrongRules (keepTo q.rules q.rules.length)).1 else if !(passS.any fun x=>decide (q.name=x)) then 7 else if 0<(keepTo q.rules q.rules.length).length then 8 else 0)=0;by_cases hn:q.name=.empty
 ·rw[if_pos hn,hr]
 ·rw[if_neg hn] at hw ⊢;by_cases h2:(!(passS.any fun x=>decide (q.name=x)))=true
  ·rw[if_pos h2] at hw;simp at hw
  ·rw[if_neg h2] at hw ⊢;by_cases h3:0<q.rules.length
   ·rw[if_pos h3] at hw;simp at hw
   ·rw[if_neg];have:=keepTo_len q.rules q.rules.length;omega
theorem masked_law {s u:Script} (h:(wrongScript s).1=0) (hu:u.passes=s.passes.map keepP) (hf:u.filt=s.filt) (ho:u.only=s.only) (t:List Int):(goF s t).2.1=5\/goF u t=goF s t:=by
 have hw:=keep_wrong h hu hf ho;obtain⟨e,_,h3⟩:=wrongScript_zero h;unfold goF;rw[hw,e];simp only[ne_eq,not_true_eq_false,if_false];by_cases ht:wrongText t≠0
 ·right;rw[if_pos ht,if_pos ht]
 ·rw[if_neg ht,if_neg ht];exact keep_goS (fun p hp=>by rw[(wrongPas_rules (h3 p hp)).1]) hu hf ho
end Go.Proofs.YthomjcjnalfipaaGreatDoor
namespace Go.Proofs.YthomjcjnalfipaaGreatDoor
open Go.RowKit
theorem any_masked {l:List Rule} {i:Nat} (h:i<l.length):((maskedTo l l.length).any fun j=>decide (j=i))=isMasked l i:=by
 rw[Bool.eq_iff_iff];simp[maskedTo,h]
theorem draw_end {W0 w:World} {f B n c:Nat} {A:Option Addr} {l:List Int} {a b:Int} {u v:Value} (x:Ext W0 w) (hf:W0.heap.size<=f) (b0:w.cell? ⟨f,0,none⟩=some u) (b1:w.cell? ⟨f,1,none⟩=some v) (s:SlR rRune 1 (fun i=>B<=i) w A n c l) (hB:f<B) :
  ∃ A' n' c' g,Value.slice A n c=.slice A' n' c'/\Value.pointer (some ⟨f,0,none⟩)=.pointer (some ⟨g,0,none⟩)/\((w.setCell ⟨f,0,none⟩ (.int .i64 a)).setCell ⟨f,1,none⟩ (.int .i64 b)).cell? ⟨g,0,none⟩=some (.int .i64 a)/\((w.setCell ⟨f,0,none⟩ (.int .i64 a)).setCell ⟨f,1,none⟩ (.int .i64 b)).cell? ⟨g,1,none⟩=some (.int .i64 b) /\
   Hid (Runes ((w.setCell ⟨f,0,none⟩ (.int .i64 a)).setCell ⟨f,1,none⟩ (.int .i64 b)) A' n' c' l)/\Ext W0 ((w.setCell ⟨f,0,none⟩ (.int .i64 a)).setCell ⟨f,1,none⟩ (.int .i64 b)):=by
 refine⟨A,n,c,f,rfl,rfl,set_other (set_same b0) (by omega),set_same (set_other b1 (by omega)),hid ?_,ext_set (ext_set x hf _ _) hf _ _⟩;refine (s.keep (keep_rune _) (fun b hb hl=>?_)).mono (fun _ _ h=>h) (fun _ _=>trivial);have q1:b≠f:=by omega
 simp only[heap_setB q1]
theorem TopMasked_any (s t:ByteArray) (w:World) (hs:s.size<=1048576) (ht:t.size<=1048576):Calls Tryz.prog 7 #[.string s,.string t] w fun e w'=>e=.returned (.bool true)/\Ext w w':=by
 have HAl:=hid (alive_any w);have HSc:=hid (fun W=>script_any s W hs);have HD:=hid (fun W=>Decode_any t W ht)
 cases hsc:scriptF s with
 | none=>
  rw[hsc] at HSc;clear hsc;go_enter Tryz.func7,Tryz.ntmps7
  go_wp2_with (first
   | (go_at_call 8;refine HAl.out.mono ?_;rintro e w1 ⟨rfl,x1⟩)
   | (go_at_call 9;refine (HSc.out _).mono ?_;rintro e w2 ⟨x2,f,A1,n1,c1,A2,n2,c2,rfl⟩))
  go_ret;exact⟨rfl,(x1.trans x2).alloc _⟩
 | some S=>
  rw[hsc] at HSc;have hw0:=scriptF_wrong hsc;clear hsc;obtain⟨sf,so,sp⟩:=S;have HLaw:=hid (masked_law (s:=⟨sf,so,sp⟩) (u:=⟨sf,so,sp.map keepP⟩) hw0 rfl rfl rfl (decodeF t));have HWP:=hid (wrongScript_zero hw0).2.2;have HLen:=hid (wrongScript_zero hw0).2.1;clear hw0;dsimp only at HWP HLen;go_enter Tryz.func7,Tryz.ntmps7
  go_upto_region 6 with (first
   | (go_at_call 8;refine HAl.out.mono ?_;rintro e w1 ⟨rfl,x1⟩)
   | (go_at_call 9;refine (HSc.out _).mono ?_;rintro e w2 ⟨x2,v,rfl,A1,n1,c1,A2,n2,c2,hv,r1,r2⟩;dsimp only at hv r1 r2;subst hv;have R1:=hid r1;have R2:=hid r2;have X2:=hid (x1.trans x2);clear r1 r2))
  have R1:=hid (show Spans w2 A1 n1 c1 so from R1.out.mono (fun _ _ h=>h) (fun _ _=>trivial));have R2:=hid (show Pss top w2 A2 n2 c2 sp from R2.out.mono (fun _ _ h=>mono_pas (fun _ _=>trivial) h) (fun _ _=>trivial));have SB:=ScV.new w2 sf A1 n1 c1 A2 n2 c2 26;have z3:=(Ext.refl (w2.alloc (.cells #[.bool sf,.slice A1 n1 c1,.slice A2 n2 c2] 26))).alloc (.cells #[.bool sf,.slice A1 n1 c1,.slice none 0 0] 26);have SS:=hid (SB.ext z3);have SU:=hid (show ScV ((w2.alloc (.cells #[.bool sf,.slice A1 n1 c1,.slice A2 n2 c2] 26)).alloc (.cells #[.bool sf,.slice A1 n1 c1,.slice none 0 0] 26)) (w2.heap.size+1) sf A1 n1 c1 none 0 0 by have:=ScV.new (w2.alloc (.cells #[.bool sf,.slice A1 n1 c1,.slice A2 n2 c2] 26)) sf A1 n1 c1 none 0 0 26;rw[World.size_alloc] at this;exact this);have X24:=hid (((Ext.refl w2).alloc (.cells #[.bool sf,.slice A1 n1 c1,.slice A2 n2 c2] 26)).trans z3);have G0:=hid (Duo.start w2.heap.size (w2.heap.size+1+1) ((w2.alloc (.cells #[.bool sf,.slice A1 n1 c1,.slice A2 n2 c2] 26)).alloc (.cells #[.bool sf,.slice A1 n1 c1,.slice none 0 0] 26)) (by simp only[World.size_alloc];omega));clear SB z3;go_upto_region 8 with fail;generalize (w2.alloc (.cells #[.bool sf,.slice A1 n1 c1,.slice A2 n2 c2] 26)).alloc (.cells #[.bool sf,.slice A1 n1 c1,.slice none 0 0] 26)=w4 at *;obtain⟨p0,p1,p2,pz,_⟩:=SS.out;go_upto_region 9 with fail;have hlen:=hid R2.out.len;have hcap:=R2.out.cap;have hmax:=R2.out.max;unfold maxLen at hmax;have hn60:n2<=60:=by have:=HLen.out;have:=hlen.out;omega
  clear p0 p1 p2 pz
  go_loopw [36] (fun v wr=>∃ (k:Nat) (lp:List Pas) (ok:Nat->Prop) (Ap:Option Addr) (cp:Nat),k<=n2/\v=.int .i64 k/\Hid ((sp.take k).map keepP=lp)/\Hid (Duo ok w2.heap.size (w2.heap.size+1+1) wr (.slice none 0 0) (.slice Ap lp.length cp) [] lp)/\Hid (∀ b,b<w2.heap.size->ok b) /\
   Hid (ScV wr w2.heap.size sf A1 n1 c1 A2 n2 c2)/\Hid (ScV wr (w2.heap.size+1) sf A1 n1 c1 Ap lp.length cp)/\Hid (Ext w2 wr)) (fun v _=>n2-(intOf v).toNat)
  case atStart=>exact⟨0,[],_,none,0,by omega,rfl,hid rfl,G0,hid (fun b h=>h),SS,SU,X24⟩
  case round=>
   clear G0 SS SU X24;obtain⟨k,lp,ok,Ap,cp,hk,rfl,HLP,G,K,SS,SU,X⟩:=hrel;have hU:w2.heap.size+1<wr.heap.size:=SU.out.lt.1;by_cases hlt:k<n2
   ·obtain⟨p,hpp⟩:=R2.out.idx hlt;obtain⟨b,off,A',n',c',hA,_,hps,hr,c0,c1'⟩:=SlR.pas R2.out hpp;subst hA;have c0:=X.out.cell c0;have c1':=X.out.cell c1';have hb0:=World.block_lt_of_cell? wr _ c0;have hne:b≠wr.heap.size:=Nat.ne_of_lt hb0;have HW:=hid (wrongPas_rules (HWP.out p (List.mem_of_getElem? hpp))).1;have HT:=hid (show (sp.take (k+1)).map keepP=lp++[keepP p] by rw[take_snoc hpp,List.map_append,HLP.out];rfl);have HPS:=hid hps;clear hpp;obtain⟨nm,rs⟩:=p;dsimp only at *;have hr0:Rules w2 A' n' c' rs:=hr.mono (fun _ _ h=>rRuleO_top h) (fun _ _=>trivial);have HR:=hid (rules_lt hr0);have ea:=(Ext.refl wr).alloc (.cells #[.string nm,.slice A' n' c'] 42);have HM:=hid (Masked_ok A' n' c' rs _ (hr0.ext (X.out.trans ea)) (by rw[HW.out]));have p0:=cell_new wr #[.string nm,.slice A' n' c'] 42 0 _ rfl;have p1:=cell_new wr #[.string nm,.slice A' n' c'] 42 1 _ rfl;have hnl:=hid hr0.len;have hn200:n'<=200:=by have h:=(wrongRules_zero (show (wrongRules rs).1=0 by rw[HW.out])).2.1;rw[hnl.out] at h;exact h
    clear hr hr0;go_upto_region 14 with (go_at_call 21;refine HM.out.mono ?_;rintro e w6 ⟨⟨A6,c6,rfl,s6⟩,x6⟩;have y0:=x6.cell p0;have y1:=x6.cell p1;have S6:=hid s6;have X6:=hid x6;clear s6);have v0:=((Ext.refl w6).alloc (.cells #[.int .i64 0,.int .i64 0] 34)).cell y0;have v1:=((Ext.refl w6).alloc (.cells #[.int .i64 0,.int .i64 0] 34)).cell y1;have S7:=hid (show Ints (w6.alloc (.cells #[.int .i64 0,.int .i64 0] 34)) A6 _ c6 _ from (S6.out.ext (keep_int _) ((Ext.refl w6).alloc (.cells #[.int .i64 0,.int .i64 0] 34))).mono (fun _ _ h=>h) (fun _ _=>trivial));have X7:=hid (ea.trans (X6.out.alloc (.cells #[.int .i64 0,.int .i64 0] 34)));have hP7:=World.block_lt_of_cell? _ _ v0;clear y0 y1 S6 X6 p0 p1 HM ea;generalize w6.alloc (.cells #[.int .i64 0,.int .i64 0] 34)=w7 at *;have hPn:wr.heap.size≠w7.heap.size:=Nat.ne_of_lt hP7;have HAny:Hid (∀ i,i<n'->((maskedTo rs rs.length).any fun j=>decide (j=i))=isMasked rs i):=hid (fun i hi=>any_masked (by rw[hnl.out];exact hi));generalize maskedTo rs rs.length=ml at *;generalize hM:ml.length=M at *;have HM:=hid hM;clear hM;have hM6:=S7.out.cap;have hM7:=S7.out.max;unfold maxLen at hM7;have X27:=hid (X.out.trans X7.out);have hb7:wr.heap.size<=w7.heap.size:=X7.out.size;go_upto_region 16 with fail;have c10:=cell_new w7 #[.string nm,.slice none 0 0] 42 0 _ rfl;have c11:=cell_new w7 #[.string nm,.slice none 0 0] 42 1 _ rfl;have qz:=(Wr.new w7 #[.string nm,.slice none 0 0] 42).2;have G7:=hid (G.out.ext X7.out);have SS7:=hid (SS.out.ext X7.out);have SU7:=hid (SU.out.ext X7.out);have hGp:=hid (G.out.ext X7.out).rp.lt;have hnl2:=hid (show lp.length<=60 by have:=congrArg List.length HLP.out;rw[List.length_map,List.length_take] at this;omega);clear G SS SU c0 c1' X hb0 hne;generalize wr=wo at *;go_loopw [55] (fun v wr=>∃ (i:Nat) (L:List Rule) (Aa:Option Addr) (ca:Nat),i<=n'/\v=.int .i64 i/\Hid (keepTo rs i=L)/\Hid (OwnR (rRuleO (fun b=>b<w2.heap.size)) 61 7 (w7.heap.size+1) wr (.slice Aa L.length ca) L)/\wr.cell? ⟨w7.heap.size,0,none⟩=some (.string nm)/\wr.cell? ⟨w7.heap.size,1,none⟩=some (.slice Aa L.length ca)/\(∀ o,wr.frozen? ⟨w7.heap.size,o,none⟩=false)/\Hid (Ext w7 wr)) (fun v _=>n'-(intOf v).toNat);case atStart=>exact⟨0,[],none,0,by omega,rfl,hid rfl,hid (OwnR.nil _ _ _ _ _),c10,c11,qz,hid ((Ext.refl w7).alloc _)⟩
    case round=>
     clear c10 c11 qz;obtain⟨i,L,Aa,ca,hi,rfl,HL,HO,d0,d1,dz,Y⟩:=hrel;have hQi:w7.heap.size+1<=wr.heap.size:=World.block_lt_of_cell? _ _ d0;have z7:=Y.out;have v0':=z7.cell v0;have v1':=z7.cell v1;have hPi:wo.heap.size<wr.heap.size:=World.block_lt_of_cell? _ _ v0';have hQ1:w7.heap.size≠wr.heap.size:=by omega
     have hPQ:wo.heap.size≠w7.heap.size:=hPn;have HLL:=hid (show L.length<=i by have:=keepTo_len rs i;rw[HL.out] at this;exact this);by_cases hli:i<n'
     ·obtain⟨r,hrr⟩:=HR.out.idx hli;obtain⟨b2,off2,vs,hA2,_,_,hr2,hc2⟩:=HR.out.at_ i r hrr;have HRr:=hid hr2;obtain⟨s1,e1,B1,m1,d1',B2,m2,d2,B3,m3,d3,B4,m4,d4,q,rfl,hh⟩:=hr2;clear hh;have X2r:=X27.out.trans z7;have cc:=fun j u hj=>X2r.cell (hc2 j u hj);have e00:=cc 0 _ rfl;have e01:=cc 1 _ rfl;have e02:=cc 2 _ rfl;have e03:=cc 3 _ rfl;have e04:=cc 4 _ rfl;have e05:=cc 5 _ rfl;have e06:=cc 6 _ rfl;clear cc;simp only[Nat.add_zero] at e00;have hb2:b2<wr.heap.size/\b2≠wr.heap.size:=by have:=World.block_lt_of_cell? _ _ e00;simp only at this;omega
      clear hc2;subst hA2;have ez:=(Ext.refl wr).alloc (.cells #[.bool s1,.bool e1,.slice B1 m1 d1',.slice B2 m2 d2,.slice B3 m3 d3,.slice B4 m4 d4,.int .i64 q] 61);have RB:=hid (RuV.new wr s1 e1 B1 m1 d1' B2 m2 d2 B3 m3 d3 B4 m4 d4 q 61);have HO8:=hid (HO.out.ext (keep_ruleO _) ez);have Y8:=hid (Y.out.trans ez);have f0:=ez.cell d0;have f1:=ez.cell d1;have g0:=ez.cell v0';have g1:=ez.cell v1';have fz:∀ o,(wr.alloc (.cells #[.bool s1,.bool e1,.slice B1 m1 d1',.slice B2 m2 d2,.slice B3 m3 d3,.slice B4 m4 d4,.int .i64 q] 61)).frozen? ⟨w7.heap.size,o,none⟩=false:=fun o=>by rw[ez.frozen (by show w7.heap.size<wr.heap.size;omega)];exact dz o
      have HR8:=hid (keep_ruleO _ _ _ _ _ ((X2r.trans ez).agree _) HRr.out);have hsz8:=World.size_alloc wr (.cells #[.bool s1,.bool e1,.slice B1 m1 d1',.slice B2 m2 d2,.slice B3 m3 d3,.slice B4 m4 d4,.int .i64 q] 61);have S78:=hid (S7.out.ext (keep_int _) (z7.trans ez));have HMI:=hid (HAny.out i hli);have HKT:=hid (keepTo_succ rs i);have HRR:=hid hrr;clear HO Y d0 d1 dz v0' v1' z7 X2r hrr HRr;go_upto_region 20 with fail;clear e00 e01 e02 e03 e04 e05 e06 ez;generalize wr.alloc (.cells #[.bool s1,.bool e1,.slice B1 m1 d1',.slice B2 m2 d2,.slice B3 m3 d3,.slice B4 m4 d4,.int .i64 q] 61)=w8 at *;generalize wr.heap.size=RBk at *;go_loopw [15,62] (fun vg v wz=>∃ j:Nat,j<=M/\v=.int .i64 j/\vg=.bool ((ml.take j).any fun x=>decide (x=i))/\wz=w8) (fun _ v _=>M-(intOf v).toNat);case atStart=>exact⟨0,by omega,rfl,rfl,rfl⟩
      case round=>
       obtain⟨j,hj,rfl,rfl,rfl⟩:=hrel;by_cases hlj:j<M
       ·obtain⟨xi,hxi⟩:=S78.out.idx hlj;obtain⟨b3,off3,hA6,hb3,hc3,hi3⟩:=S78.out.int hxi;subst hA6
        obtain⟨x,hx1,hx2⟩:∃ x,ml[j]? =some x/\xi=((x:Nat):Int):=by
         rw[List.getElem?_map] at hxi
         cases hm:ml[j]? with
         | none=>rw[hm] at hxi;cases hxi
         | some x=>rw[hm] at hxi;cases hxi;exact⟨x,rfl,rfl⟩
        subst hx2;have HS:=hid (show (ml.take (j+1)).any (fun x=>decide (x=i))=((ml.take j).any (fun x=>decide (x=i))||decide (x=i)) by rw[take_snoc hx1,List.any_append];simp);clear hxi hx1;generalize hga:(ml.take j).any (fun x=>decide (x=i))=ga at *;clear hga;cases ga
        ·have gx:(((x:Int))==(i:Int))=decide (x=i):=by rw[Bool.eq_iff_iff];simp;omega
         go_wp2;go_roundw;case rel=>exact⟨j+1,by omega,by go_num,by rw[HS.out];rfl,trivial⟩
         case measure=>simp[intOf];omega
        ·go_wp2;go_roundw;case rel=>exact⟨j+1,by omega,by go_num,by rw[HS.out];rfl,trivial⟩
         case measure=>simp[intOf];omega
       ·have hga:(ml.take j).any (fun x=>decide (x=i))=isMasked rs i:=by rw[List.take_of_length_le (by rw[HM.out];omega)];exact HMI.out
        rw[hga];clear hga;cases hm:isMasked rs i
        ·have HN:=hid (show keepTo rs (i+1)=L++[r] by rw[HKT.out,HL.out,hm,HRR.out];rfl);have P1:=hid (rule_one 61 HR8.out);rw[hsz8] at P1;obtain⟨L2,hL2⟩:∃ z,L++[r]=z:=⟨_,rfl⟩
         have HL2:=hid hL2;rw[hL2] at HN;obtain⟨t0,t1,t2,t3,t4,t5,t6,tz,tl⟩:=RB.out;clear hm hL2;go_wp2_with (at_builtin;refine wpList_appS TE_rule (by omega) rfl (.tmp 76) (.tmp 78) rfl rfl (HO8.out.ext (keep_ruleO _) ((Ext.refl _).alloc _)) rfl P1.out (fun _ _ h=>h) (one_ruleO _) (keep_ruleO _) (fun g hg=>by have:=(HO8.out.lt g hg).1;omega) (by have:=HLL.out;omega) (by simp only[World.size_alloc];omega) ?_;intro v9 w9 o9 g9 hat9;rw[HL2.out] at o9;have hr9:=o9.lt;have hx9:=g9.size;have y0:=far_cell g9 (((Ext.refl _).alloc _).cell f0) (fun e=>by have:=(HO8.out.lt _ e).1;omega);have y1:=far_cell g9 (((Ext.refl _).alloc _).cell f1) (fun e=>by have:=(HO8.out.lt _ e).1;omega);have yz:∀ o,w9.frozen? ⟨w7.heap.size,o,none⟩=false:=(fun o=>by have hb:=g9.block w7.heap.size (by simp only[World.size_alloc];omega) (fun e=>by have:=(HO8.out.lt _ e.symm).1;omega);have:=((Ext.refl _).alloc (.cells #[.bool s1,.bool e1,.slice B1 m1 d1',.slice B2 m2 d2,.slice B3 m3 d3,.slice B4 m4 d4,.int .i64 q] 61) |>.frozen (a:=⟨w7.heap.size,o,none⟩) (by show w7.heap.size<_;omega)).trans (fz o);simp only[World.frozen?] at this ⊢;rw[hb];exact this);have Z9:=hid ((Y8.out.alloc _).grown g9 (fun g hg=>by have:=(HO8.out.lt g hg).1;omega));obtain⟨A9,c9,rfl,_,_⟩:=o9.form;have O9:=hid o9;have hw9:w7.heap.size<w9.heap.size:=(by simp only[World.size_alloc] at hx9;omega);clear o9 g9 hat9 hr9 hx9);go_roundw;case rel=>exact⟨i+1,L2,A9,c9,by omega,by go_num,HN,hid (O9.out.keep (keep_ruleO _) ((agree_set w7.heap.size 1 _ _).mono fun b hb e=>by omega) (fun g hg=>heap_setB (by have:=(O9.out.lt g hg).1;omega))),set_other y0 (by omega),set_same y1,fun o=>by rw[World.frozen?_setCell];exact yz o,hid (Z9.out.setCell (p:=⟨w7.heap.size,1,none⟩) (Nat.le_refl _) _)⟩
         case measure=>simp[intOf];omega
        ·have HN:=hid (show keepTo rs (i+1)=L by rw[HKT.out,HL.out,hm];simp);clear hm;go_wp2;go_roundw;case rel=>exact⟨i+1,L,Aa,ca,by omega,by go_num,HN,HO8,f0,f1,fz,Y8⟩
         case measure=>simp[intOf];omega
     ·have hin:i=n':=by omega
      have HKP:=hid (show keepP ⟨nm,rs⟩=⟨nm,L⟩ by show (⟨nm,keepTo rs rs.length⟩:Pas)=_;rw[hnl.out,<- hin,HL.out]);obtain⟨A0,c0,e0,hs0⟩:=HO.out.slOwn;cases e0;have hown:=HO.out.lt;have Gm:=(G7.out.ext Y.out).more (tk:=fun b=>(Value.slice Aa L.length ca).ownBlock=some b) (fun b hb=>⟨(hown b hb).2,.inr (by have:=(hown b hb).1;omega),fun e=>(by cases e),fun e=>by have h1:=(hown b hb).1;have h2:=(hGp.out b e).2;omega⟩);have hs2:SlR (rRuleO (fun b=>ok b\/(Value.slice Aa L.length ca).ownBlock=some b)) 7 (fun b=>ok b\/(Value.slice Aa L.length ca).ownBlock=some b) wr Aa L.length ca L:=hs0.mono (fun vs x hx=>mono_ruleO (fun b hb=>Or.inl (K.out b hb)) hx) (fun b hb=>Or.inr hb);have P1:=hid (pass_one (p:=⟨nm,L⟩) 42 HPS.out hs2);have z1:=(Ext.refl wr).alloc (.cells #[.string nm,.slice Aa L.length ca] 42);have Gn:=hid (Gm.ext z1);have SUe:=hid (SU7.out.ext (Y.out.trans z1));have SSe:=hid (SS7.out.ext (Y.out.trans z1));obtain⟨q0,q1,q2,qz,ql⟩:=SU7.out.ext Y.out;obtain⟨lq,hlq⟩:∃ z,lp++[(⟨nm,L⟩:Pas)]=z:=⟨_,rfl⟩
      have HLQ:=hid hlq;have HT2:=hid (show (sp.take (k+1)).map keepP=lq by rw[HT.out,HKP.out,hlq]);have XW:=hid (X27.out.trans (Y.out.trans z1));have KK:=hid (show ∀ b,b<w2.heap.size->(fun b=>ok b\/(Value.slice Aa L.length ca).ownBlock=some b) b from fun b hb=>Or.inl (K.out b hb));clear hin hs0 hown Gm hs2 hlq HT HKP HO G7 SU7 SS7 K z1;generalize (fun b=>ok b\/(Value.slice Aa L.length ca).ownBlock=some b)=ok2 at *;go_wp2_with (at_builtin;refine wpList_appS TE_pass (by omega) rfl (.tmp 83) (.tmp 85) rfl rfl Gn.out.rp rfl P1.out (fun _ _ h=>h) (one_pas _) (keep_pas _) Gn.out.np (by have:=hnl2.out;omega) (by simp only[World.size_alloc];omega) ?_;intro v9 w9 o9 g9 hat9;rw[HLQ.out] at o9;have Gx:=Gn.out.put_p o9 g9 hat9;have hr:=(fun g e=>(Gn.out.rp.lt g e).1);obtain⟨A9,c9,rfl,_,_⟩:=o9.form;have G9:=hid Gx;have SU9:=hid (SUe.out.keep (g9.block _ SUe.out.lt.1 (fun e=>by have:=hr _ e.symm;omega)) g9.size);have SS9:=hid (SSe.out.keep (g9.block _ SSe.out.lt.1 (fun e=>by have:=hr _ e.symm;omega)) g9.size);have X9:=hid (XW.out.grown g9 (fun g e=>by have:=hr g e;omega));obtain⟨y0,y1,y2,yz,yl⟩:=SU9.out;clear o9 g9 hat9 Gx hr);go_roundw;case rel=>exact⟨k+1,lq,ok2,A9,c9,by omega,by go_num,HT2,hid (G9.out.off (fun h=>by have:=(G9.out.hok _ h).2;omega) (fun e=>(by cases e)) (fun e=>by have:=(G9.out.rp.lt _ e).1;omega) 2 _),KK,hid (SS9.out.off (by omega) 2 _),hid (SU9.out.set2 A9 lq.length c9),hid (X9.out.setCell (p:=⟨w2.heap.size+1,2,none⟩) (by show w2.heap.size<=w2.heap.size+1;omega) _)⟩
      case measure=>simp[intOf];omega
   ·have HP:=hid (show sp.map keepP=lp by rw[<- HLP.out,List.take_of_length_le (by rw[hlen.out];omega)]);obtain⟨A0,c0,e0,s0⟩:=G.out.rp.top;cases e0;have RU:=hid (show Pss top wr Ap lp.length cp lp from s0.mono (fun _ _ h=>mono_pas (fun _ _=>trivial) h) (fun _ _=>trivial));have R1e:=hid (Spans.ext R1.out X.out);have R2e:=hid (R2.out.ext (keep_pas _) X.out);obtain⟨p0,p1,p2,_,_⟩:=SS.out;obtain⟨r0,r1,r2,_,_⟩:=SU.out;have XX:=hid (X2.out.trans X.out);rw[HP.out] at HLaw;obtain⟨T,hT⟩:∃ z,z=goF ⟨sf,so,sp⟩ (decodeF t):=⟨_,rfl⟩
    obtain⟨T2,hT2⟩:∃ z,z=goF ⟨sf,so,lp⟩ (decodeF t):=⟨_,rfl⟩
    have HL2:Hid (T.2.1=5\/T2=T):=hid (by rw[hT,hT2];exact HLaw.out);have HGo:=hid (fun (X:Option Addr) (m d:Nat) (W:World) (e:Ext wr W) (h:Runes W X m d (decodeF t))=>show Calls Tryz.prog 10 #[.agg #[.bool sf,.slice A1 n1 c1,.slice A2 n2 c2],.slice X m d] W fun e w'=>(∃ A n c,e=.returned (.tuple #[.slice A n c,.agg #[.int .i64 T.2.1,.int .i64 T.2.2]])/\SlR rRune 1 (fun b=>W.heap.size<=b) w' A n c T.1)/\Ext W w' by rw[hT];exact Go_one sf A1 n1 c1 A2 n2 c2 so sp X m d _ W (Spans.ext R1e.out e) (R2e.out.ext (keep_pas top) e) h);have HGu:=hid (fun (X:Option Addr) (m d:Nat) (W:World) (e:Ext wr W) (h:Runes W X m d (decodeF t))=>show Calls Tryz.prog 10 #[.agg #[.bool sf,.slice A1 n1 c1,.slice Ap lp.length cp],.slice X m d] W fun e w'=>(∃ A n c,e=.returned (.tuple #[.slice A n c,.agg #[.int .i64 T2.2.1,.int .i64 T2.2.2]])/\SlR rRune 1 (fun b=>W.heap.size<=b) w' A n c T2.1)/\Ext W w' by rw[hT2];exact Go_one sf A1 n1 c1 Ap lp.length cp so lp X m d _ W (Spans.ext R1e.out e) (RU.out.ext (keep_pas top) e) h);clear hT hT2 HP s0 HLaw G K SS SU HLP;generalize lp.length=ln at *;generalize wr=w5 at *;go_upto_region 29 with fail;go_cut [18,19] from 89 to 95 (fun va vf wx=>∃ A n c fb,va=.slice A n c/\vf=.pointer (some ⟨fb,0,none⟩)/\wx.cell? ⟨fb,0,none⟩=some (.int .i64 T.2.1)/\wx.cell? ⟨fb,1,none⟩=some (.int .i64 T.2.2)/\Hid (Runes wx A n c T.1)/\Ext w5 wx)
    case first=>
     have d0:=(Ext.refl w5).drew;have d1:=((Ext.refl w5).alloc (.cells #[.int .i64 0,.int .i64 0] 34)).drew;have v50:(w5.alloc (.cells #[.int .i64 0,.int .i64 0] 34)).cell? ⟨w5.heap.size,0,none⟩=some (.int .i64 0):=by simp
     have v51:(w5.alloc (.cells #[.int .i64 0,.int .i64 0] 34)).cell? ⟨w5.heap.size,1,none⟩=some (.int .i64 0):=by simp
     have v5z:=Wr.new w5 #[.int .i64 0,.int .i64 0] 34;have hbw:w2.heap.size<w5.heap.size:=World.block_lt_of_cell? w5 _ p0
     go_region_held3 (fun w'=>w'.cell? ⟨w2.heap.size,0,none⟩=some (.bool sf)/\w'.cell? ⟨w2.heap.size,1,none⟩=some (.slice A1 n1 c1)/\w'.cell? ⟨w2.heap.size,2,none⟩=some (.slice A2 n2 c2))
      (first | exact⟨p0,p1,p2⟩ | exact⟨y0,y1,y2⟩ | exact⟨t0,t1,t2⟩ | (go_keep;done) | exact⟨(World.cell?_of_block (heap_setB hfb)).trans ((World.cell?_of_block (heap_setB hfb)).trans t0),(World.cell?_of_block (heap_setB hfb)).trans ((World.cell?_of_block (heap_setB hfb)).trans t1),(World.cell?_of_block (heap_setB hfb)).trans ((World.cell?_of_block (heap_setB hfb)).trans t2)⟩)
      (first
       | (go_at_call 11;((with_reducible refine (HD.out w5.drew).mono ?_);rintro e w6a ⟨v,rfl,ov,x6⟩;obtain⟨AT,cT,hv,sT⟩:=ov.top;generalize (decodeF t).length=NT at hv sT;subst hv;have X6:=hid (d0.trans x6);have ST:=hid sT;have y0:=X6.out.cell p0;have y1:=X6.out.cell p1;have y2:=X6.out.cell p2;clear ov sT x6))
       | (go_at_call 11;((with_reducible refine (HD.out (w5.alloc (.cells #[.int .i64 0,.int .i64 0] 34)).drew).mono ?_);rintro e w6a ⟨v,rfl,ov,x6⟩;obtain⟨AT,cT,hv,sT⟩:=ov.top;generalize (decodeF t).length=NT at hv sT;subst hv;have X6:=hid (d1.trans x6);have ST:=hid sT;have y0:=X6.out.cell p0;have y1:=X6.out.cell p1;have y2:=X6.out.cell p2;have v60:=x6.cell (show (w5.alloc (.cells #[.int .i64 0,.int .i64 0] 34)).drew.cell? ⟨w5.heap.size,0,none⟩=some (.int .i64 0) from v50);have v61:=x6.cell (show (w5.alloc (.cells #[.int .i64 0,.int .i64 0] 34)).drew.cell? ⟨w5.heap.size,1,none⟩=some (.int .i64 0) from v51);have v6z:=(v5z.ext (Ext.refl _).drew).ext x6;have hfw:w2.heap.size≠w5.heap.size:=(by omega);clear ov sT x6))
       | (go_at_call 10;((with_reducible refine (HGo.out _ _ _ w6a X6.out ST.out).mono ?_);rintro e w7a ⟨⟨A7,n7,c7,rfl,h7⟩,x7⟩;have X7:=hid ((X6.out).trans x7);have S7:=hid h7;(try have b0:=x7.cell v60);(try have b1:=x7.cell v61);(try have bz:=(v6z.ext x7).2);(try have bl:=(v6z.ext x7).1);(try have hfb:=hfw);have t0:=X7.out.cell p0;have t1:=X7.out.cell p1;have t2:=X7.out.cell p2;clear h7))
       | (go_at_call 10;((with_reducible refine (HGo.out _ _ _ (w6a.alloc (.cells #[.int .i64 0,.int .i64 0] 34)) (X6.out.alloc _) (ST.out.ext (keep_rune top) ((Ext.refl w6a).alloc _))).mono ?_);rintro e w7a ⟨⟨A7,n7,c7,rfl,h7⟩,x7⟩;have X7:=hid (((X6.out.alloc _)).trans x7);have S7:=hid h7;have b0:w7a.cell? ⟨w6a.heap.size,0,none⟩=some (.int .i64 0):=x7.cell (by simp);have b1:w7a.cell? ⟨w6a.heap.size,1,none⟩=some (.int .i64 0):=x7.cell (by simp);have bz:=((Wr.new w6a #[.int .i64 0,.int .i64 0] 34).ext x7).2;have bl:=((Wr.new w6a #[.int .i64 0,.int .i64 0] 34).ext x7).1;have hfb:w2.heap.size≠w6a.heap.size:=(by have:=X6.out.size;omega);have t0:=X7.out.cell p0;have t1:=X7.out.cell p1;have t2:=X7.out.cell p2;clear h7)))
     ·go_wp2_with fail;go_meet;case rel=>exact⟨A7,n7,c7,w7a.heap.size,rfl,rfl,by simp,by simp,hid ((S7.out.ext (keep_rune _) ((Ext.refl w7a).alloc _)).mono (fun _ _ h=>h) (fun _ _=>trivial)),X7.out.alloc _⟩
     ·go_wp2_with fail;go_meet;case rel=>exact draw_end X7.out X6.out.size b0 b1 S7.out (by simp only[World.size_alloc];omega)
     ·go_wp2_with fail;go_meet;case rel=>exact draw_end X7.out (Nat.le_refl _) b0 b1 S7.out (by have:=v6z.1;omega)
    case rest=>
     obtain⟨A8,n8,c8,fb,rfl,rfl,z0,z1,HS8,X8⟩:=hcut;have r08:=X8.cell r0;have r18:=X8.cell r1;have r28:=X8.cell r2;have X8h:=hid X8;have HGv:=hid (fun (X:Option Addr) (m d:Nat) (W:World) (e:Ext wc W) (h:Runes W X m d (decodeF t))=>HGu.out X m d W (X8.trans e) h);clear X8 p0 p1 p2 r0 r1 r2 HGo HGu;generalize wc=w9 at *;go_upto_region 30 with fail;go_cut [20,21] from 96 to 102 (fun va vf wx=>∃ A n c fb,va=.slice A n c/\vf=.pointer (some ⟨fb,0,none⟩)/\wx.cell? ⟨fb,0,none⟩=some (.int .i64 T2.2.1)/\wx.cell? ⟨fb,1,none⟩=some (.int .i64 T2.2.2)/\Hid (Runes wx A n c T2.1)/\Ext w9 wx)
     case first=>
      have d0:=(Ext.refl w9).drew;have d1:=((Ext.refl w9).alloc (.cells #[.int .i64 0,.int .i64 0] 34)).drew;have v50:(w9.alloc (.cells #[.int .i64 0,.int .i64 0] 34)).cell? ⟨w9.heap.size,0,none⟩=some (.int .i64 0):=by simp
      have v51:(w9.alloc (.cells #[.int .i64 0,.int .i64 0] 34)).cell? ⟨w9.heap.size,1,none⟩=some (.int .i64 0):=by simp
      have v5z:=Wr.new w9 #[.int .i64 0,.int .i64 0] 34;have hbw:(w2.heap.size+1)<w9.heap.size:=World.block_lt_of_cell? w9 _ r08
      go_region_held3 (fun w'=>w'.cell? ⟨(w2.heap.size+1),0,none⟩=some (.bool sf)/\w'.cell? ⟨(w2.heap.size+1),1,none⟩=some (.slice A1 n1 c1)/\w'.cell? ⟨(w2.heap.size+1),2,none⟩=some (.slice Ap ln cp))
       (first | exact⟨r08,r18,r28⟩ | exact⟨y0,y1,y2⟩ | exact⟨t0,t1,t2⟩ | (go_keep;done) | exact⟨(World.cell?_of_block (heap_setB hfb)).trans ((World.cell?_of_block (heap_setB hfb)).trans t0),(World.cell?_of_block (heap_setB hfb)).trans ((World.cell?_of_block (heap_setB hfb)).trans t1),(World.cell?_of_block (heap_setB hfb)).trans ((World.cell?_of_block (heap_setB hfb)).trans t2)⟩)
       (first
        | (go_at_call 11;((with_reducible refine (HD.out w9.drew).mono ?_);rintro e w6b ⟨v,rfl,ov,x6⟩;obtain⟨AT,cT,hv,sT⟩:=ov.top;generalize (decodeF t).length=NT at hv sT;subst hv;have X6:=hid (d0.trans x6);have ST:=hid sT;have y0:=X6.out.cell r08;have y1:=X6.out.cell r18;have y2:=X6.out.cell r28;clear ov sT x6))
        | (go_at_call 11;((with_reducible refine (HD.out (w9.alloc (.cells #[.int .i64 0,.int .i64 0] 34)).drew).mono ?_);rintro e w6b ⟨v,rfl,ov,x6⟩;obtain⟨AT,cT,hv,sT⟩:=ov.top;generalize (decodeF t).length=NT at hv sT;subst hv;have X6:=hid (d1.trans x6);have ST:=hid sT;have y0:=X6.out.cell r08;have y1:=X6.out.cell r18;have y2:=X6.out.cell r28;have v60:=x6.cell (show (w9.alloc (.cells #[.int .i64 0,.int .i64 0] 34)).drew.cell? ⟨w9.heap.size,0,none⟩=some (.int .i64 0) from v50);have v61:=x6.cell (show (w9.alloc (.cells #[.int .i64 0,.int .i64 0] 34)).drew.cell? ⟨w9.heap.size,1,none⟩=some (.int .i64 0) from v51);have v6z:=(v5z.ext (Ext.refl _).drew).ext x6;have hfw:(w2.heap.size+1)≠w9.heap.size:=(by omega);clear ov sT x6))
        | (go_at_call 10;((with_reducible refine (HGv.out _ _ _ w6b X6.out ST.out).mono ?_);rintro e w7b ⟨⟨A7,n7,c7,rfl,h7⟩,x7⟩;have X7:=hid ((X6.out).trans x7);have S7:=hid h7;(try have b0:=x7.cell v60);(try have b1:=x7.cell v61);(try have bz:=(v6z.ext x7).2);(try have bl:=(v6z.ext x7).1);(try have hfb:=hfw);have t0:=X7.out.cell r08;have t1:=X7.out.cell r18;have t2:=X7.out.cell r28;clear h7))
        | (go_at_call 10;((with_reducible refine (HGv.out _ _ _ (w6b.alloc (.cells #[.int .i64 0,.int .i64 0] 34)) (X6.out.alloc _) (ST.out.ext (keep_rune top) ((Ext.refl w6b).alloc _))).mono ?_);rintro e w7b ⟨⟨A7,n7,c7,rfl,h7⟩,x7⟩;have X7:=hid (((X6.out.alloc _)).trans x7);have S7:=hid h7;have b0:w7b.cell? ⟨w6b.heap.size,0,none⟩=some (.int .i64 0):=x7.cell (by simp);have b1:w7b.cell? ⟨w6b.heap.size,1,none⟩=some (.int .i64 0):=x7.cell (by simp);have bz:=((Wr.new w6b #[.int .i64 0,.int .i64 0] 34).ext x7).2;have bl:=((Wr.new w6b #[.int .i64 0,.int .i64 0] 34).ext x7).1;have hfb:(w2.heap.size+1)≠w6b.heap.size:=(by have:=X6.out.size;omega);have t0:=X7.out.cell r08;have t1:=X7.out.cell r18;have t2:=X7.out.cell r28;clear h7)))
      ·go_wp2_with fail;go_meet;case rel=>exact⟨A7,n7,c7,w7b.heap.size,rfl,rfl,by simp,by simp,hid ((S7.out.ext (keep_rune _) ((Ext.refl w7b).alloc _)).mono (fun _ _ h=>h) (fun _ _=>trivial)),X7.out.alloc _⟩
      ·go_wp2_with fail;go_meet;case rel=>exact draw_end X7.out X6.out.size b0 b1 S7.out (by simp only[World.size_alloc];omega)
      ·go_wp2_with fail;go_meet;case rel=>exact draw_end X7.out (Nat.le_refl _) b0 b1 S7.out (by have:=v6z.1;omega)
     case rest=>
      obtain⟨A9,n9,c9,fb2,rfl,rfl,z2,z3,HS9,X9⟩:=hcut;have z0':=X9.cell z0;have z1':=X9.cell z1;clear z0 z1;by_cases h5:T.2.1=5
      ·rw[h5] at z0';clear h5 HL2;go_wp2_with fail;go_ret;exact⟨rfl,(XX.out.trans X8h.out).trans X9⟩
      ·have g5:(T.2.1==5)=false:=by simpa using h5
       obtain rfl:=HL2.out.resolve_left h5;have HSm:=hid (Same_any A8 A9 n8 c8 n9 c9 T2.1 T2.1 _ (Runes.ext HS8.out X9) HS9.out);clear h5 HL2;go_wp2_with (go_at_call 12;refine HSm.out.mono ?_;rintro e w10 ⟨rfl,x10⟩);go_ret;exact⟨by simp,((XX.out.trans X8h.out).trans X9).trans x10⟩
end Go.Proofs.YthomjcjnalfipaaGreatDoor
namespace Go.Proofs.YthomjcjnalfipaaGreatDoor.rowTopMasked
open Go.ChangeShapes Go.WideShapes Go.ChangeAt Go.RowKit
open Go.ChangeMaps (open_string shut_string)
theorem reads (os:Os) {H:Type} (enc:TypeId×Value->H):∃ places,DataW.whole enc Tryz.prog ((topWorld os).forCall (fun _ _=>0) ⟨#[],#[.string ⟨#[]⟩,.string ⟨#[]⟩],[]⟩).memory Tryz.f7.params.toList (Rows.OpenSpec.upto Rows.topMaskedSpec).vars false #[Value.string ⟨#[]⟩,Value.string ⟨#[]⟩].toList 8=some ([.lit (.string []),.lit (.string [])],[],places):=
 ⟨[],by kernel_rfl⟩
theorem lifted (os:Os) (started:os.Started) (H:Type) (enc:TypeId×Value->H) (F:Stop.Interp) :
  ReturnsInHanded {} Tryz.checked os 7 .any ((Rows.OpenSpec.upto Rows.topMaskedSpec).preRow enc Tryz.prog Tryz.f7 Rows.topMaskedUptoRow.domain false Rows.topMaskedUptoRow.laid) (((Rows.OpenSpec.upto Rows.topMaskedSpec).at F).post enc Tryz.prog Tryz.f7 false true false false):=by
 obtain⟨places,hx⟩:=reads os enc
 refine returnsInHanded_of_row (C:=Tryz.checked) (s:=(Rows.OpenSpec.upto Rows.topMaskedSpec)) topOwn started (by kernel_rfl) Tryz.func7
  (witness_row_atRef (enc:=enc) (C:=Tryz.checked) false (topWorld os) #[Value.string ⟨#[]⟩,Value.string ⟨#[]⟩] rfl (by kernel_rfl) (by kernel_rfl) (by kernel_rfl)
   (OpenSpec.preRow_of_cond 8 hx (by kernel_rfl) (fun k hk=>by cases hk;kernel_rfl) (by kernel_rfl) (topLaid os _))) ?_
 intro W base args ds gs before hval0 hW _ hcond _ _ _ _;have hk:Rows.uptoSmall H (ds++gs)=true:=hcond _ rfl;have hval:∀ (j:Nat) t v,Tryz.f7.params[j]? =some t->args[j]? =some v->Value.okWide Tryz.prog W .any base t v:=hval0;have hW':=hW;obtain⟨p,q,hA0,hV,rfl,hfz,hnd⟩:=hW;have hA:DataW.TrodAll enc Tryz.prog W 0 (fun _=>true) true Tryz.f7.params.toList args.toList ds p:=hA0;rw[Tryz.params7] at hA hval;obtain⟨v0,vs0,d0,ds0,p0,q0,hargs,rfl,rfl,h0,r0⟩:=trodAll_cons hA;obtain⟨v1,vs1,d1,ds1,p1,q1,rfl,rfl,rfl,h1,r1⟩:=trodAll_cons r0;obtain⟨rfl,rfl,rfl⟩:=trodAll_nil r1;obtain rfl:args=#[v0,v1]:=by cases args;simp_all
 obtain⟨rfl,rfl⟩:=trodVars_none hV;obtain⟨s0,rfl,rfl,rfl,ws0⟩:=open_string Tryz.underlying9 (hval 0 9 v0 rfl rfl) h0;have z0:s0.size<=1048576:=by have:=text_bulk s0.data.toList hk (by simp);rw[bytes_len] at this;exact this
 obtain⟨s1,rfl,rfl,rfl,ws1⟩:=open_string Tryz.underlying9 (hval 1 9 v1 rfl rfl) h1;have z1:s1.size<=1048576:=by have:=text_bulk s1.data.toList hk (by simp);rw[bytes_len] at this;exact this
 clear hA0;simp only[List.append_nil] at hW';refine (TopMasked_any s0 s1 W z0 z1).mono fun e W' ⟨he,hg⟩=>?_;subst he;refine⟨_,rfl,_,_,_,[],_,[],hW',trodAll_mk1 (shut_bool Tryz.underlying4 _),(trodAll_cons_mk (shut_string Tryz.underlying9 ws0) (trodAll_cons_mk (shut_string Tryz.underlying9 ws1) trodAll_mk0)),rfl,hg.frame _,fun h=>by cases h⟩
theorem and2 {a b:Bool} (h:a=true) (k:b=true):(a&&b)=true:=by rw[h,k];rfl
theorem closed:joinedFacts Tryz.pinned.checked.prog 7 Tryz.f7 (Rows.OpenSpec.upto Rows.topMaskedSpec).bare Rows.topMaskedUptoRow=true:=by
 unfold joinedFacts
 repeat (refine and2 ?_ (by kernel_rfl))
 kernel_rfl
theorem over:Rows.topMaskedUptoRow.holds Tryz.pinned (Rows.OpenSpec.upto Rows.topMaskedSpec):=
 OpenClaim.holds_of_cond 7 Tryz.f7 rfl rfl rfl rfl rfl rfl rfl ⟨rfl,rfl,rfl,rfl,rfl⟩ rfl rfl rfl rfl rfl (by kernel_rfl) Tryz.func7 closed
  (of_decide_eq_true (by kernel_rfl)) (by unfold Func.isWrapper;first | (rw[if_pos (by decide +kernel)];kernel_rfl) | (rw[if_neg (by decide +kernel)];exact⟨rfl,rfl⟩))
  (fun os started H enc _ F=>by rw[OpenClaim.pre_eq_preRow];exact lifted os started H enc F)
theorem plain (f:FuncId) (fn:Func) (hf:Tryz.pinned.checked.prog.funcNamed Rows.topMaskedUptoRow.func=some f) (hfn:Tryz.pinned.checked.prog.funcs[f]? =some fn) :
  true=Tryz.pinned.checked.prog.looks []/\∀ (j:Nat) t,fn.params[j]? =some t->Tryz.pinned.checked.prog.wantsStandIn t=false:=by
 obtain rfl:f=7:=Option.some.inj ((show Tryz.pinned.checked.prog.funcNamed Rows.topMaskedUptoRow.func=some 7 by kernel_rfl).symm.trans hf) |>.symm
 obtain rfl:fn=Tryz.f7:=(Option.some.inj (Tryz.func7.symm.trans hfn)).symm;refine⟨by kernel_rfl,fun j t ht=>?_⟩;rw[Tryz.params7] at ht;obtain rfl:t=9:=by simpa using Array.mem_of_getElem? ht
 exact (show Tryz.prog.wantsStandIn 9=false by kernel_rfl)
theorem proved:Rows.TopMaskedUptoCardSaid:=
 Claim7.holds_tied_plain_at .later [] _ _ _ _ over (fun _ h=>by cases h) (by kernel_rfl) (fun _ h=>by cases h) topMaskedUpto_row_tie rfl ⟨rfl,rfl⟩ (by kernel_rfl) rfl plain (by kernel_rfl)
end Go.Proofs.YthomjcjnalfipaaGreatDoor.rowTopMasked
#print axioms Go.Proofs.YthomjcjnalfipaaGreatDoor.rowTopMasked.proved
