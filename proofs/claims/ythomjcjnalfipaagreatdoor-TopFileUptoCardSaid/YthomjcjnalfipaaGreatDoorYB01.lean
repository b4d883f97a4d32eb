/- A part of the proofs of the Top laws. -/
import Derived.WalkKit
import Derived.WalkSpells
import Derived.WalkLawsBesides
import Derived.Deep.QuietTactic
import Derived.BigQuiet
import Derived.Lib.Hide
import Derived.Deep.AppendLies
import Derived.Deep.Slices
import Derived.Lib.AppendZeros
import Derived.Sort.Row
import Derived.Deep.Quiet
set_option linter.all false
namespace Go.Proofs.YthomjcjnalfipaaGreatDoor
open Go.RowKit
def Ext (w w':World):Prop:=Below w.heap.size w w'
theorem Ext.below {w w':World} (h:Ext w w'):Below w.heap.size w w':=h
theorem Ext.refl (w:World):Ext w w:=Below.refl _ _
theorem Ext.trans {a b c:World} (h:Ext a b) (k:Ext b c):Ext a c:=Below.trans h (Below.mono k h.size)
theorem Ext.size {w w':World} (h:Ext w w'):w.heap.size<=w'.heap.size:=Below.size h
theorem Ext.alloc {a w:World} (h:Ext a w) (o:Obj):Ext a (w.alloc o):=Below.alloc h h.size o
theorem Ext.drew {a w:World} (h:Ext a w):Ext a w.drew:=Below.drew h
theorem below_drewN {B:Nat} {a w:World} (h:Below B a w) (n:Nat):Below B a (w.drewN n):=⟨h.os,h.tape,h.output,h.size,h.block⟩
theorem Ext.drewN {a w:World} (h:Ext a w) (n:Nat):Ext a (w.drewN n):=below_drewN h n
theorem Ext.setCell {a w:World} (h:Ext a w) {p:Addr} (hp:a.heap.size<=p.block) (u:Value):Ext a (w.setCell p u):=Below.setCell h hp u
theorem Ext.grown {a w w':World} {row:Option Nat} (h:Ext a w) (hg:w.grownBy w' row) (hr:∀ k,row=some k->a.heap.size<=k):Ext a w':=Below.grown h hg h.size hr
theorem Ext.cell {w w':World} (h:Ext w w') {a:Addr} {v:Value} (hc:w.cell? a=some v):w'.cell? a=some v:=
 (Below.cell h (World.block_lt_of_cell? w a hc)).trans hc
theorem Ext.cell' {w w':World} (h:Ext w w') {a:Addr} (hb:a.block<w.heap.size):w'.cell? a=w.cell? a:=Below.cell h hb
theorem Ext.frozen {w w':World} (h:Ext w w') {a:Addr} (hb:a.block<w.heap.size):w'.frozen? a=w.frozen? a:=Below.frozen h hb
theorem Ext.block {w w':World} (h:Ext w w') {b:Nat} (hb:b<w.heap.size):w'.heap[b]? =w.heap[b]?:=Below.block h b hb
def Agree (ok:Nat->Prop) (w w':World):Prop:=∀ b,ok b->b<w.heap.size->w'.heap[b]? =w.heap[b]?
theorem Ext.agree {w w':World} (h:Ext w w') (ok:Nat->Prop):Agree ok w w':=fun b _ hb=>h.block hb
theorem Agree.cell {ok:Nat->Prop} {w w':World} (h:Agree ok w w') {a:Addr} {v:Value} (ho:ok a.block) (hc:w.cell? a=some v):w'.cell? a=some v:=
 (World.cell?_of_block (h a.block ho (World.block_lt_of_cell? w a hc))).trans hc
theorem Agree.refl (ok:Nat->Prop) (w:World):Agree ok w w:=fun _ _ _=>rfl
theorem grown_agree {w w':World} {row:Option Nat} (hg:w.grownBy w' row) {ok:Nat->Prop} (h:∀ g,row=some g->¬ ok g):Agree ok w w':=
 fun b ho hb=>hg.block b hb (fun e=>h b e.symm ho)
def top:Nat->Prop:=fun _=>True
structure SlR {α :Type} (R:World->List Value-> α ->Prop) (sz:Nat) (ok:Nat->Prop) (w:World) (A:Option Addr) (n c:Nat) (l:List α):Prop where
 len:l.length=n
 cap:n<=c
 max:c<=maxLen
 at_:∀ k x,l[k]? =some x->∃ b off vs,A=some ⟨b,off,none⟩/\ok b/\vs.length=sz/\R w vs x/\∀ j u,vs[j]? =some u->w.cell? ⟨b,off+k*sz+j,none⟩=some u
def Keep {α :Type} (R:World->List Value-> α ->Prop) (ok:Nat->Prop):Prop:=∀ w w' vs x,Agree ok w w'->R w vs x->R w' vs x
section
variable {α : Type} {R : World -> List Value -> α -> Prop} {sz : Nat} {ok : Nat -> Prop} {w w' : World} {A : Option Addr} {n c : Nat} {l : List α}
theorem SlR.keep (hk:Keep R ok) (h:SlR R sz ok w A n c l) (ha:Agree ok w w'):SlR R sz ok w' A n c l:=
 ⟨h.len,h.cap,h.max,fun k x hx=>by
  obtain⟨b,off,vs,e,ho,hl,hr,hc⟩:=h.at_ k x hx
  exact⟨b,off,vs,e,ho,hl,hk _ _ _ _ ha hr,fun j u hu=>ha.cell (a:=⟨b,off+k*sz+j,none⟩) ho (hc j u hu)⟩⟩
theorem SlR.ext (hk:Keep R ok) (h:SlR R sz ok w A n c l) (ha:Ext w w'):SlR R sz ok w' A n c l:=h.keep hk (ha.agree ok)
theorem SlR.mono {R':World->List Value-> α ->Prop} {ok':Nat->Prop} (h:SlR R sz ok w A n c l) (hR:∀ vs x,R w vs x->R' w vs x) (ho:∀ b,ok b->ok' b):SlR R' sz ok' w A n c l:=
 ⟨h.len,h.cap,h.max,fun k x hx=>by
  obtain⟨b,off,vs,e,ho',hl,hr,hc⟩:=h.at_ k x hx
  exact⟨b,off,vs,e,ho _ ho',hl,hR _ _ hr,hc⟩⟩
theorem SlR.lt (hs:0<sz) (h:SlR R sz ok w A n c l):SlR R sz (fun b=>ok b/\b<w.heap.size) w A n c l:=
 ⟨h.len,h.cap,h.max,fun k x hx=>by
  obtain⟨b,off,vs,e,ho,hl,hr,hc⟩:=h.at_ k x hx;refine⟨b,off,vs,e,⟨ho,?_⟩,hl,hr,hc⟩
  exact World.block_lt_of_cell? w ⟨b,off+k*sz+0,none⟩ (hc 0 (vs[0]'(by omega)) (List.getElem?_eq_getElem (by omega)))⟩
theorem SlR.nil (R:World->List Value-> α ->Prop) (sz:Nat) (ok:Nat->Prop) (w:World) (A:Option Addr) (c:Nat) (hc:c<=maxLen):SlR R sz ok w A 0 c []:=
 ⟨rfl,Nat.zero_le _,hc,fun k x hx=>by simp at hx⟩
theorem addr_add (b o k:Nat):(⟨b,o,none⟩:Addr).add k=⟨b,o+k,none⟩:=by
 unfold Addr.add;split <;> simp_all
theorem SlR.cut (h:SlR R sz ok w A n c l) {lo hi:Nat} (h1:lo<=hi) (h2:hi<=n) {A':Option Addr} (hA:lo<n->A'=A.map (·.add (lo*sz))) :
  SlR R sz ok w A' (hi-lo) (c-lo) ((l.take hi).drop lo):=by
 refine⟨by simp[h.len];omega,by have:=h.cap;omega,by have:=h.max;omega,fun k x hx=>?_⟩
 have hlt:lo+k<hi:=by
  have:=(List.getElem?_eq_some_iff.1 hx).1;simp[h.len] at this;omega
 rw[List.getElem?_drop,List.getElem?_take,if_pos hlt] at hx;obtain⟨b,off,vs,rfl,ho,hl,hr,hc⟩:=h.at_ _ x hx;refine⟨b,off+lo*sz,vs,?_,ho,hl,hr,fun j u hu=>?_⟩
 ·rw[hA (by omega)];simp[addr_add]
 ·have:=hc j u hu;rw[Nat.add_mul,<- Nat.add_assoc] at this;exact this
theorem SlR.idx (h:SlR R sz ok w A n c l) {k:Nat} (hk:k<n):∃ x,l[k]? =some x:=
 ⟨l[k]'(by rw[h.len];exact hk),List.getElem?_eq_getElem _⟩
end
def i32 (x:Int):Prop:=-2147483648<=x/\x<=2147483647
def i64 (x:Int):Prop:=-9223372036854775808<=x/\x<=9223372036854775807
def rRune:World->List Value->Int->Prop:=fun _ vs x=>vs=[.int .i32 x]/\i32 x
def rInt:World->List Value->Int->Prop:=fun _ vs x=>vs=[.int .i64 x]/\i64 x
structure Sp where
 lo:Int
 hi:Int
theorem Sp.ext' {a b:Sp} (h1:a.lo=b.lo) (h2:a.hi=b.hi):a=b:=by cases a;cases b;simp_all
instance:DecidableEq Sp:=fun a b=>if h:a.lo=b.lo/\a.hi=b.hi then .isTrue (Sp.ext' h.1 h.2) else .isFalse (fun e=>h (by rw[e];exact⟨rfl,rfl⟩))
instance:Inhabited Sp:=⟨⟨0,0⟩⟩
def rSpan:World->List Value->Sp->Prop:=fun _ vs x=>vs=[.int .i32 x.lo,.int .i32 x.hi]/\i32 x.lo/\i32 x.hi
def rSl {α :Type} (R:World->List Value-> α ->Prop) (sz:Nat) (ok:Nat->Prop):World->List Value->List α ->Prop:=
 fun w vs l=>∃ A n c,vs=[.slice A n c]/\SlR R sz ok w A n c l
theorem keep_rune (ok:Nat->Prop):Keep rRune ok:=fun _ _ _ _ _ h=>h
theorem keep_int (ok:Nat->Prop):Keep rInt ok:=fun _ _ _ _ _ h=>h
theorem keep_span (ok:Nat->Prop):Keep rSpan ok:=fun _ _ _ _ _ h=>h
theorem keep_sl {α :Type} {R:World->List Value-> α ->Prop} {sz:Nat} {ok:Nat->Prop} (hk:Keep R ok):Keep (rSl R sz ok) ok:=
 fun _ _ _ _ ha ⟨A,n,c,e,h⟩=>⟨A,n,c,e,h.keep hk ha⟩
structure Rule where
 start:Bool
 fin:Bool
 before:List (List Sp)
 source:List (List Sp)
 after:List (List Sp)
 target:List Int
 cursor:Int
instance:Inhabited Rule:=⟨⟨false,false,[],[],[],[],0⟩⟩
abbrev Runes (w:World) (A:Option Addr) (n c:Nat) (l:List Int):Prop:=SlR rRune 1 top w A n c l
abbrev Ints (w:World) (A:Option Addr) (n c:Nat) (l:List Int):Prop:=SlR rInt 1 top w A n c l
abbrev Spans (w:World) (A:Option Addr) (n c:Nat) (l:List Sp):Prop:=SlR rSpan 2 top w A n c l
abbrev Sets (w:World) (A:Option Addr) (n c:Nat) (l:List (List Sp)):Prop:=SlR (rSl rSpan 2 top) 1 top w A n c l
theorem keep_set:Keep (rSl rSpan 2 top) top:=keep_sl (keep_span top)
structure RuleV (w:World) (s f:Bool) (A1:Option Addr) (n1 c1:Nat) (A2:Option Addr) (n2 c2:Nat) (A3:Option Addr) (n3 c3:Nat) (A4:Option Addr) (n4 c4:Nat) (k:Int) (r:Rule):Prop where
 start:r.start=s
 fin:r.fin=f
 before:Sets w A1 n1 c1 r.before
 source:Sets w A2 n2 c2 r.source
 after:Sets w A3 n3 c3 r.after
 target:Runes w A4 n4 c4 r.target
 cursor:r.cursor=k
 bound:i64 k
theorem RuleV.ext {w w':World} {s f:Bool} {A1:Option Addr} {n1 c1:Nat} {A2:Option Addr} {n2 c2:Nat} {A3:Option Addr} {n3 c3:Nat} {A4:Option Addr} {n4 c4:Nat} {k:Int} {r:Rule}
  (h:RuleV w s f A1 n1 c1 A2 n2 c2 A3 n3 c3 A4 n4 c4 k r) (ha:Agree top w w'):RuleV w' s f A1 n1 c1 A2 n2 c2 A3 n3 c3 A4 n4 c4 k r:=
 ⟨h.start,h.fin,h.before.keep keep_set ha,h.source.keep keep_set ha,h.after.keep keep_set ha,h.target.keep (keep_rune _) ha,h.cursor,h.bound⟩
def rRule:World->List Value->Rule->Prop:=fun w vs r=>
 ∃ s f A1 n1 c1 A2 n2 c2 A3 n3 c3 A4 n4 c4 k,vs=[.bool s,.bool f,.slice A1 n1 c1,.slice A2 n2 c2,.slice A3 n3 c3,.slice A4 n4 c4,.int .i64 k]/\RuleV w s f A1 n1 c1 A2 n2 c2 A3 n3 c3 A4 n4 c4 k r
theorem keep_rule:Keep rRule top:=fun w w' vs r ha ⟨s,f,A1,n1,c1,A2,n2,c2,A3,n3,c3,A4,n4,c4,k,e,h⟩=>⟨s,f,A1,n1,c1,A2,n2,c2,A3,n3,c3,A4,n4,c4,k,e,h.ext ha⟩
abbrev Rules (w:World) (A:Option Addr) (n c:Nat) (l:List Rule):Prop:=SlR rRule 7 top w A n c l
theorem Runes.ext {w w':World} {A:Option Addr} {n c:Nat} {l:List Int} (h:Runes w A n c l) (e:Ext w w'):Runes w' A n c l:=SlR.ext (keep_rune _) h e
theorem Spans.ext {w w':World} {A:Option Addr} {n c:Nat} {l:List Sp} (h:Spans w A n c l) (e:Ext w w'):Spans w' A n c l:=SlR.ext (keep_span _) h e
theorem Sets.ext {w w':World} {A:Option Addr} {n c:Nat} {l:List (List Sp)} (h:Sets w A n c l) (e:Ext w w'):Sets w' A n c l:=SlR.ext keep_set h e
theorem Rules.ext {w w':World} {A:Option Addr} {n c:Nat} {l:List Rule} (h:Rules w A n c l) (e:Ext w w'):Rules w' A n c l:=SlR.ext keep_rule h e
section
variable {w : World} {A : Option Addr} {n c k : Nat} {ok : Nat -> Prop}
theorem SlR.rune {l:List Int} {x:Int} (h:SlR rRune 1 ok w A n c l) (hx:l[k]? =some x) :
  ∃ b off,A=some ⟨b,off,none⟩/\(b<w.heap.size/\b≠w.heap.size)/\w.cell? ⟨b,off+k,none⟩=some (.int .i32 x)/\ -2147483648<=x/\x<=2147483647:=by
 obtain⟨b,off,vs,e,ho,_,⟨rfl,hb⟩,hc⟩:=h.at_ k x hx;have h0:=hc 0 _ rfl;have hlt:b<w.heap.size:=World.block_lt_of_cell? w _ h0;exact⟨b,off,e,⟨hlt,by omega⟩,by simpa using h0,hb.1,hb.2⟩
theorem SlR.int {l:List Int} {x:Int} (h:SlR rInt 1 ok w A n c l) (hx:l[k]? =some x) :
  ∃ b off,A=some ⟨b,off,none⟩/\(b<w.heap.size/\b≠w.heap.size)/\w.cell? ⟨b,off+k,none⟩=some (.int .i64 x)/\i64 x:=by
 obtain⟨b,off,vs,e,ho,_,⟨rfl,hb⟩,hc⟩:=h.at_ k x hx;have h0:=hc 0 _ rfl;have hlt:b<w.heap.size:=World.block_lt_of_cell? w _ h0;exact⟨b,off,e,⟨hlt,by omega⟩,by simpa using h0,hb⟩
theorem SlR.span {l:List Sp} {x:Sp} (h:SlR rSpan 2 ok w A n c l) (hx:l[k]? =some x) :
  ∃ b off,A=some ⟨b,off,none⟩/\(b<w.heap.size/\b≠w.heap.size)/\w.cell? ⟨b,off+k*2,none⟩=some (.int .i32 x.lo)/\w.cell? ⟨b,off+k*2+1,none⟩=some (.int .i32 x.hi) /\
   (-2147483648<=x.lo/\x.lo<=2147483647)/\(-2147483648<=x.hi/\x.hi<=2147483647):=by
 obtain⟨b,off,vs,e,ho,_,⟨rfl,hb,hb'⟩,hc⟩:=h.at_ k x hx;have h0:=hc 0 _ rfl;have hlt:b<w.heap.size:=World.block_lt_of_cell? w _ h0;exact⟨b,off,e,⟨hlt,by omega⟩,by simpa using h0,by simpa using hc 1 _ rfl,hb,hb'⟩
theorem SlR.sl {α :Type} {R:World->List Value-> α ->Prop} {sz:Nat} {ok':Nat->Prop} {l:List (List α)} {x:List α} (h:SlR (rSl R sz ok') 1 ok w A n c l) (hx:l[k]? =some x) :
  ∃ b off A' n' c',A=some ⟨b,off,none⟩/\(b<w.heap.size/\b≠w.heap.size)/\w.cell? ⟨b,off+k,none⟩=some (.slice A' n' c')/\SlR R sz ok' w A' n' c' x:=by
 obtain⟨b,off,vs,e,ho,_,⟨A',n',c',rfl,hb⟩,hc⟩:=h.at_ k x hx;have h0:=hc 0 _ rfl;have hlt:b<w.heap.size:=World.block_lt_of_cell? w _ h0;exact⟨b,off,A',n',c',e,⟨hlt,by omega⟩,by simpa using h0,hb⟩
theorem SlR.rule {l:List Rule} {r:Rule} (h:SlR rRule 7 ok w A n c l) (hx:l[k]? =some r) :
  ∃ b off s f A1 n1 c1 A2 n2 c2 A3 n3 c3 A4 n4 c4 q,A=some ⟨b,off,none⟩/\(b<w.heap.size/\b≠w.heap.size)/\RuleV w s f A1 n1 c1 A2 n2 c2 A3 n3 c3 A4 n4 c4 q r /\
   w.cell? ⟨b,off+k*7,none⟩=some (.bool s)/\w.cell? ⟨b,off+k*7+1,none⟩=some (.bool f)/\w.cell? ⟨b,off+k*7+2,none⟩=some (.slice A1 n1 c1) /\
   w.cell? ⟨b,off+k*7+3,none⟩=some (.slice A2 n2 c2)/\w.cell? ⟨b,off+k*7+4,none⟩=some (.slice A3 n3 c3)/\w.cell? ⟨b,off+k*7+5,none⟩=some (.slice A4 n4 c4) /\
   w.cell? ⟨b,off+k*7+6,none⟩=some (.int .i64 q):=by
 obtain⟨b,off,vs,e,ho,_,⟨s,f,A1,n1,c1,A2,n2,c2,A3,n3,c3,A4,n4,c4,q,rfl,hb⟩,hc⟩:=h.at_ k r hx;have h0:=hc 0 _ rfl;have hlt:b<w.heap.size:=World.block_lt_of_cell? w _ h0;exact⟨b,off,s,f,A1,n1,c1,A2,n2,c2,A3,n3,c3,A4,n4,c4,q,e,⟨hlt,by omega⟩,hb,by simpa using h0,by simpa using hc 1 _ rfl,by simpa using hc 2 _ rfl,by simpa using hc 3 _ rfl,by simpa using hc 4 _ rfl,by simpa using hc 5 _ rfl,by simpa using hc 6 _ rfl⟩
end
theorem cell_new (w:World) (cs:Array Value) (t:TypeId) (j:Nat) (u:Value) (h:cs[j]? =some u):(w.alloc (.cells cs t)).cell? ⟨w.heap.size,j,none⟩=some u:=by
 rw[cell_of_row _ _ j cs t (0,0) (heap_alloc_new w _)];exact h
theorem SlR.fresh {α :Type} {R:World->List Value-> α ->Prop} {sz:Nat} {w:World} {cs:Array Value} {t:TypeId} {n:Nat} {l:List α} (hl:l.length=n) (hm:n<=maxLen)
  (h:∀ k x,l[k]? =some x->∃ vs,vs.length=sz/\R (w.alloc (.cells cs t)) vs x/\∀ j u,vs[j]? =some u->cs[k*sz+j]? =some u) :
  SlR R sz top (w.alloc (.cells cs t)) (some ⟨w.heap.size,0,none⟩) n n l:=
 ⟨hl,Nat.le_refl _,hm,fun k x hx=>by
  obtain⟨vs,h1,h2,h3⟩:=h k x hx
  exact⟨_,0,vs,rfl,trivial,h1,h2,fun j u hu=>by rw[Nat.zero_add];exact cell_new w cs t _ u (h3 j u hu)⟩⟩
theorem enters {P:Program} {f:FuncId} {fn:Func} {c:Code} (hf:P.funcs[f]? =some fn) (hname:(fn.name== "runtime.NumGoroutine")=false) (hb:fn.body=some c) :
  ∀ (args:Array Value) (w:World),(callFunc f args).run P w=.ok (.enter f args) w:=by
 intro args w;have h1:fn.name≠ "runtime.NumGoroutine":=by simpa using hname
 simp[callFunc,hf,h1,hb,mark]
theorem take_snoc {α :Type} {l:List α} {k:Nat} {x: α} (h:l[k]? =some x):l.take (k+1)=l.take k++[x]:=by
 rw[List.take_add_one,h];rfl
theorem take_all {α :Type} {l:List α} {k n:Nat} (hl:l.length=n) (h:n<=k):l.take k=l:=List.take_of_length_le (by omega)
theorem lt_of_get {α :Type} {l:List α} {k:Nat} {x: α} (h:l[k]? =some x):k<l.length:=(List.getElem?_eq_some_iff.1 h).1
def Wr (w:World) (b:Nat):Prop:=b<w.heap.size/\∀ i,w.frozen? ⟨b,i,none⟩=false
theorem Wr.ext {w w':World} {b:Nat} (h:Wr w b) (e:Ext w w'):Wr w' b:=⟨Nat.lt_of_lt_of_le h.1 e.size,fun i=>(e.frozen h.1).trans (h.2 i)⟩
theorem Wr.new (w:World) (cs:Array Value) (t:TypeId):Wr (w.alloc (.cells cs t)) w.heap.size:=⟨by simp,fun i=>by simp⟩
theorem Wr.lt {w w':World} {b:Nat} (h:Wr w b) (e:Ext w w'):b<w'.heap.size:=Nat.lt_of_lt_of_le h.1 e.size
theorem ext_set {a w:World} (h:Ext a w) {b:Nat} (hb:a.heap.size<=b) (o:Nat) (u:Value):Ext a (w.setCell ⟨b,o,none⟩ u):=h.setCell hb u
end Go.Proofs.YthomjcjnalfipaaGreatDoor
namespace Go.Proofs.YthomjcjnalfipaaGreatDoor
def sw (l:List Int) (i j:Nat):List Int:=(l.set i (l.getD j 0)).set j (l.getD i 0)
@[simp] theorem sw_len (l:List Int) (i j:Nat):(sw l i j).length=l.length:=by simp[sw]
theorem sw_mem {l:List Int} {i j:Nat} (hi:i<l.length) (hj:j<l.length) {x:Int} (hx:x∈sw l i j):x∈l:=by
 unfold sw at hx;have m:∀ k,k<l.length->l.getD k 0∈l:=fun k hk=>by rw[List.getD_eq_getElem?_getD,List.getElem?_eq_getElem hk];simp
 rcases List.mem_or_eq_of_mem_set hx with h | h
 ·rcases List.mem_or_eq_of_mem_set h with h | h
  ·exact h
  ·rw[h];exact m j hj
 ·rw[h];exact m i hi
end Go.Proofs.YthomjcjnalfipaaGreatDoor
namespace Go.Proofs.YthomjcjnalfipaaGreatDoor
open Go.RowKit Go.Sort
structure Far (w:World) where
 out:World
 ext:Ext w out
instance (w:World):Inhabited (Far w):=⟨⟨w,Ext.refl w⟩⟩
theorem wp_region_far {P:Program} {id:Nat} {Q:Exit->Act->World->Prop} {a:Act} {w:World} {l:List Oper} (hm:P.follows .mixedOrders=true) (hB:Region.lexB .any l.toArray=true)
  (h:wpQuiet P l.toArray (fun w'=>∃ p:Far w,w'=p.out) (fun a'=>∀ w',(∃ p:Far w,w'=p.out)->Q .normal a' w') l a):(Code.region id l.toArray true).wp P Q a w:=
 wp_region_quiet (C:=fun w'=>∃ p:Far w,w'=p.out) hm hB ⟨⟨w.drew,(Ext.refl w).drew⟩,rfl⟩ (by simpa using h)
theorem Calls.far_of {P:Program} {f:FuncId} {args:Array Value} {w:World} {p:Far w} {v:Value}
  (h:Calls P f args p.out fun e w'=>e=.returned v/\Ext p.out w'):Calls P f args p.out fun e w''=>e=.returned v/\∃ q:Far w,w''=q.out:=
 h.mono fun _ _ ⟨he,hx⟩=>⟨he,⟨_,p.ext.trans hx⟩,rfl⟩
theorem ext_setBoth {a w:World} (h:Ext a w) {b o:Nat} (hb:b<a.heap.size) (v:Value):Ext (a.setCell ⟨b,o,none⟩ v) (w.setCell ⟨b,o,none⟩ v):=by
 have h1:=Ext.below h;rw[setCell_eq,setCell_eq];refine⟨h1.os,h1.tape,h1.output,by simpa [mapBlock] using h1.size,fun k hk=>?_⟩;have hk':k<a.heap.size:=by simpa [mapBlock] using hk
 simp only[mapBlock,Array.getElem?_modify];rw[h1.block k hk']
theorem ext_mapBoth {a w:World} (h:Ext a w) {b:Nat} (hb:b<a.heap.size) (f:Array Value->Array Value):Ext (mapBlock a b f) (mapBlock w b f):=by
 have h1:=Ext.below h;refine⟨h1.os,h1.tape,h1.output,by simpa [mapBlock] using h1.size,fun k hk=>?_⟩;have hk':k<a.heap.size:=by simpa [mapBlock] using hk
 simp only[mapBlock,Array.getElem?_modify];rw[h1.block k hk']
theorem toArray_get (l:List Int) (i:Nat):l.toArray[i]! =l.getD i 0:=by
 rw[List.getD_eq_getElem?_getD];by_cases h:i<l.length
 ·rw[getElem!_pos _ i (by simpa using h),List.getElem?_eq_getElem h];simp
 ·rw[getElem!_neg _ i (by simpa using h),List.getElem?_eq_none (by omega)];rfl
theorem swp_toArray (l:List Int) (i j:Nat):swp l.toArray i j=(sw l i j).toArray:=by
 unfold swp sw;rw[toArray_get,toArray_get];simp
structure SE (k:IntKind) (w0:World) (b off:Nat) (L0:List Int) (ok:Int->Prop) (L:List Int) (W:World):Prop where
 base:Holds (Value.int k) w0 b off L0.toArray
 blk:b<w0.heap.size
 len:L.length=L0.length
 all:∀ x∈L,ok x
 ext:Ext (putRow (Value.int k) w0 b off L.toArray) W
section
variable {k : IntKind} {w0 W : World} {b off : Nat} {L0 L : List Int} {ok : Int -> Prop}
theorem size_put (l:List Int):(putRow (Value.int k) w0 b off l.toArray).heap.size=w0.heap.size:=by simp[putRow,mapBlock]
theorem SE.start (h:Holds (Value.int k) w0 b off L0.toArray) (hb:b<w0.heap.size) (ha:∀ x∈L0,ok x):SE k w0 b off L0 ok L0 w0:=
 ⟨h,hb,rfl,ha,by rw[putRow_self _ _ _ _ _ h];exact Ext.refl _⟩
theorem SE.more (h:SE k w0 b off L0 ok L W) {W':World} (e:Ext W W'):SE k w0 b off L0 ok L W':=⟨h.base,h.blk,h.len,h.all,h.ext.trans e⟩
theorem SE.lt (h:SE k w0 b off L0 ok L W):b<W.heap.size/\b≠W.heap.size:=by
 have:=h.ext.size;rw[size_put] at this;have:=h.blk;omega
theorem SE.cell (h:SE k w0 b off L0 ok L W) {i:Nat} (hi:i<L.length):W.cell? ⟨b,off+i,none⟩=some (.int k (L.getD i 0)):=by
 refine h.ext.cell ?_;have:=cell?_putRow (Value.int k) w0 b off L0.toArray L.toArray h.base (by simpa using h.len) i (by simpa using hi);rw[this,toArray_get]
theorem SE.frz (h:SE k w0 b off L0 ok L W) {i:Nat} (hi:i<L.length):W.frozen? ⟨b,off+i,none⟩=false:=by
 have h1:=(h.base i (by simpa using (by rw[<- h.len];exact hi))).2;rw[h.ext.frozen (by rw[size_put];exact h.blk),frozen?_putRow];exact h1
theorem SE.swap (h:SE k w0 b off L0 ok L W) {i j:Nat} (hi:i<L.length) (hj:j<L.length) :
  SE k w0 b off L0 ok (sw L i j) (((W.setCell ⟨b,off+i,none⟩ (.int k (L.getD j 0))).setCell ⟨b,off+j,none⟩ (.int k (L.getD i 0))).drew):=by
 refine⟨h.base,h.blk,by rw[sw_len];exact h.len,fun x hx=>h.all x (sw_mem hi hj hx),?_⟩;have e:=putRow_swp (Value.int k) w0 b off L.toArray i j (by simpa using hi) (by simpa using hj);rw[toArray_get,toArray_get,swp_toArray] at e;rw[<- e];refine Ext.drew ?_;refine ext_setBoth (ext_setBoth h.ext ?_ _) ?_ _
 ·rw[size_put];exact h.blk
 ·simp only[World.setCell,Array.size_modify];rw[size_put];exact h.blk
theorem SE.c2 (h:SE k w0 b off L0 ok L W) {i j:Nat} (hi:i<L.length) (hj:j<L.length) (v:Value):∃ u,(W.setCell ⟨b,off+i,none⟩ v).cell? ⟨b,off+j,none⟩=some u:=by
 by_cases e:i=j
 ·subst e;exact⟨v,World.cell?_setCell_same _ _ _ (h.cell hi)⟩
 ·exact⟨_,(World.cell?_setCell_other _ _ _ _ (by intro e';simp only[Addr.mk.injEq] at e';omega)).trans (h.cell hj)⟩
end
end Go.Proofs.YthomjcjnalfipaaGreatDoor
namespace Go.Proofs.YthomjcjnalfipaaGreatDoor
theorem getD_sw {l:List Int} {i j k:Nat} (hi:i<l.length) (hj:j<l.length):(sw l i j).getD k 0=if k=j then l.getD i 0 else if k=i then l.getD j 0 else l.getD k 0:=by
 unfold sw;simp only[List.getD_eq_getElem?_getD,List.getElem?_set,List.length_set];by_cases e1:k=j
 ·subst e1;simp[hj]
 ·rw[if_neg (fun e=>e1 e.symm),if_neg e1];by_cases e2:k=i
  ·subst e2;simp[hi]
  ·rw[if_neg (fun e=>e2 e.symm),if_neg e2]
theorem sw_perm {l:List Int} {i j:Nat} (hi:i<l.length) (hj:j<l.length):(sw l i j).Perm l:=by
 have e1:l.getD j 0=l[j]:=by simp[List.getD_eq_getElem?_getD,List.getElem?_eq_getElem hj]
 have e2:l.getD i 0=l[i]:=by simp[List.getD_eq_getElem?_getD,List.getElem?_eq_getElem hi]
 unfold sw;rw[e1,e2];exact List.set_set_perm hi hj
inductive Sw (a b:Nat):List Int->List Int->Prop
 | refl (L:List Int):Sw a b L L
 | step {L M:List Int} {i j:Nat}:Sw a b L M->a<=i->i<b->a<=j->j<b->Sw a b L (sw M i j)
section
variable {a b a' b' : Nat} {L M R : List Int}
theorem Sw.len (h:Sw a b L M):M.length=L.length:=by
 induction h with
 | refl=>rfl
 | step _ _ _ _ _ ih=>rw[sw_len,ih]
theorem Sw.trans (h:Sw a b L M) (k:Sw a b M R):Sw a b L R:=by
 induction k with
 | refl=>exact h
 | step _ h1 h2 h3 h4 ih=>exact .step ih h1 h2 h3 h4
theorem Sw.mono (h:Sw a b L M) (ha:a'<=a) (hb:b<=b'):Sw a' b' L M:=by
 induction h with
 | refl=>exact .refl _
 | step _ h1 h2 h3 h4 ih=>exact .step ih (by omega) (by omega) (by omega) (by omega)
theorem Sw.one (L:List Int) {i j:Nat} (h1:a<=i) (h2:i<b) (h3:a<=j) (h4:j<b):Sw a b L (sw L i j):=.step (.refl L) h1 h2 h3 h4
theorem Sw.perm (h:Sw a b L M) (hb:b<=L.length):M.Perm L:=by
 induction h with
 | refl=>exact List.Perm.refl _
 | step h0 h1 h2 h3 h4 ih=>exact (sw_perm (by rw[h0.len];omega) (by rw[h0.len];omega)).trans ih
theorem Sw.out (h:Sw a b L M) (hb:b<=L.length) {k:Nat} (hk:k<a\/b<=k):M.getD k 0=L.getD k 0:=by
 induction h with
 | refl=>rfl
 | step h0 h1 h2 h3 h4 ih=>rw[getD_sw (by rw[h0.len];omega) (by rw[h0.len];omega),if_neg (by omega),if_neg (by omega),ih]
theorem Sw.all (h:Sw a b L M) (hb:b<=L.length) {Q:Int->Prop} (hq:∀ k,a<=k->k<b->Q (L.getD k 0)):∀ k,a<=k->k<b->Q (M.getD k 0):=by
 induction h with
 | refl=>exact hq
 | step h0 h1 h2 h3 h4 ih=>
  intro k h5 h6;rw[getD_sw (by rw[h0.len];omega) (by rw[h0.len];omega)];split
  ·exact ih _ h1 h2
  ·split
   ·exact ih _ h3 h4
   ·exact ih _ h5 h6
end
def Sd (a b:Nat) (D:List Int):Prop:=∀ p q,a<=p->p<=q->q<b->D.getD p 0<=D.getD q 0
theorem Sd.nil {a b:Nat} (D:List Int) (h:b<=a+1):Sd a b D:=fun p q h1 h2 h3=>by
 have:p=q:=by omega
 subst this;exact Int.le_refl _
structure InJ (x i j:Nat) (D:List Int):Prop where
 h1:∀ p q,x<=p->p<=q->q<=i->p≠j->q≠j->D.getD p 0<=D.getD q 0
 h2:∀ q,j<q->q<=i->D.getD j 0<=D.getD q 0
theorem InJ.start {x i:Nat} {D:List Int} (h:Sd x i D):InJ x i i D:=⟨fun p q h1 h2 h3 h4 h5=>h p q h1 h2 (by omega),fun q h1 h2=>by omega⟩
theorem InJ.go {x i j:Nat} {D:List Int} (h:InJ x i (j+1) D) (hx:x<=j) (hi:j+1<=i) (hl:i<D.length) (hlt:D.getD (j+1) 0<D.getD j 0):InJ x i j (sw D (j+1) j):=by
 have e:=fun k=>getD_sw (l:=D) (i:=j+1) (j:=j) (k:=k) (by omega) (by omega);refine⟨fun p q h1 h2 h3 h4 h5=>?_,fun q h1 h2=>?_⟩
 ·rw[e,e,if_neg h4,if_neg h5];by_cases hp:p=j+1
  ·by_cases hq:q=j+1
   ·rw[if_pos hp,if_pos hq];exact Int.le_refl _
   ·rw[if_pos hp,if_neg hq];exact h.h1 j q hx (by omega) h3 (by omega) hq
  ·by_cases hq:q=j+1
   ·rw[if_neg hp,if_pos hq];exact h.h1 p j h1 (by omega) (by omega) hp (by omega)
   ·rw[if_neg hp,if_neg hq];exact h.h1 p q h1 h2 h3 hp hq
 ·rw[e,e,if_pos rfl,if_neg (by omega)];by_cases hq:q=j+1
  ·rw[if_pos hq];omega
  ·rw[if_neg hq];exact h.h2 q (by omega) h2
theorem InJ.stop {x i j:Nat} {D:List Int} (h:InJ x i j D) (hx:x<=j) (hi:j<=i) (hs:j<=x\/D.getD (j-1) 0<=D.getD j 0):Sd x (i+1) D:=by
 intro p q h1 h2 h3;by_cases hq:q=j
 ·by_cases hp:p=j
  ·rw[hp,hq];exact Int.le_refl _
  ·have hs:D.getD (j-1) 0<=D.getD j 0:=hs.resolve_left (by omega);have:=h.h1 p (j-1) h1 (by omega) (by omega) hp (by omega);rw[hq];omega
 ·by_cases hp:p=j
  ·rw[hp];exact h.h2 q (by omega) (by omega)
  ·exact h.h1 p q h1 h2 (by omega) hp hq
def Hp (f lo hi:Nat) (D:List Int):Prop:=∀ k c,lo<=k->(c=2*k+1\/c=2*k+2)->c<hi->D.getD (f+c) 0<=D.getD (f+k) 0
structure HpR (f lo hi r:Nat) (D:List Int):Prop where
 h1:∀ k c,lo<=k->k≠r->(c=2*k+1\/c=2*k+2)->c<hi->D.getD (f+c) 0<=D.getD (f+k) 0
 h2:∀ k c,lo<=k->(r=2*k+1\/r=2*k+2)->(c=2*r+1\/c=2*r+2)->c<hi->D.getD (f+c) 0<=D.getD (f+k) 0
theorem HpR.start {f lo hi:Nat} {D:List Int} (h:Hp f (lo+1) hi D):HpR f lo hi lo D:=⟨fun k c h1 h2 h3 h4=>h k c (by omega) h3 h4,fun k c h1 h2 h3 h4=>by omega⟩
theorem HpR.stop {f lo hi r:Nat} {D:List Int} (h:HpR f lo hi r D) (hs:∀ c,(c=2*r+1\/c=2*r+2)->c<hi->D.getD (f+c) 0<=D.getD (f+r) 0):Hp f lo hi D:=fun k c h1 h2 h3=>by
 by_cases e:k=r
 ·subst e;exact hs c h2 h3
 ·exact h.h1 k c h1 e h2 h3
theorem HpR.go {f lo hi r c:Nat} {D:List Int} (h:HpR f lo hi r D) (hlo:lo<=r) (hc:c=2*r+1\/c=2*r+2) (hch:c<hi) (hl:f+hi<=D.length) (hlt:D.getD (f+r) 0<D.getD (f+c) 0)
  (hg:∀ c',(c'=2*r+1\/c'=2*r+2)->c'<hi->D.getD (f+c') 0<=D.getD (f+c) 0):HpR f lo hi c (sw D (f+r) (f+c)):=by
 have e:=fun k=>getD_sw (l:=D) (i:=f+r) (j:=f+c) (k:=k) (by omega) (by omega);refine⟨fun k d h1 h2 h3 h4=>?_,fun k d h1 h2 h3 h4=>?_⟩
 ·rw[e,e,if_neg (show ¬ f+k=f+c by omega)];by_cases hk:k=r
  ·subst hk;rw[if_pos (show f+k=f+k from rfl)];by_cases hd:d=c
   ·rw[if_pos (by omega)];omega
   ·rw[if_neg (by omega),if_neg (by omega)];exact hg d h3 h4
  ·rw[if_neg (show ¬ f+k=f+r by omega)];by_cases hd:d=c
   ·exfalso;omega
   ·rw[if_neg (by omega)];by_cases hd2:d=r
    ·subst hd2;rw[if_pos rfl];exact h.h2 k c h1 h3 hc hch
    ·rw[if_neg (by omega)];exact h.h1 k d h1 hk h3 h4
 ·have hk:k=r:=by omega
  subst hk;rw[e,e,if_neg (by omega),if_neg (by omega),if_neg (by omega),if_pos rfl];exact h.h1 c d (by omega) (by omega) h3 h4
theorem Hp.top {f hi:Nat} {D:List Int} (h:Hp f 0 hi D):∀ k,k<hi->D.getD (f+k) 0<=D.getD f 0:=by
 intro k
 induction k using Nat.strongRecOn with
 | _ k ih=>
  intro hk;by_cases h0:k=0
  ·subst h0;simp
  ·have h1:=ih ((k-1) / 2) (by omega) (by omega);have h2:=h ((k-1) / 2) k (by omega) (by omega) hk;omega
structure Pp (f hi c:Nat) (D:List Int):Prop where
 hp:Hp f 0 c D
 sd:Sd (f+c) (f+hi) D
 le:∀ p q,p<c->c<=q->q<hi->D.getD (f+p) 0<=D.getD (f+q) 0
theorem Pp.start {f hi:Nat} {D:List Int} (h:Hp f 0 hi D):Pp f hi hi D:=⟨h,Sd.nil _ (by omega),fun p q h1 h2 h3=>by omega⟩
theorem Pp.done {f hi:Nat} {D:List Int} (h:Pp f hi 0 D):Sd f (f+hi) D:=h.sd
theorem Pp.mid {f hi c:Nat} {D:List Int} (h:Pp f hi (c+1) D) (hc:c+1<=hi) (hl:f+hi<=D.length):Hp f 1 c (sw D f (f+c)):=by
 have e:=fun k=>getD_sw (l:=D) (i:=f) (j:=f+c) (k:=k) (by omega) (by omega);intro k d h1 h2 h3;rw[e,e,if_neg (by omega),if_neg (by omega),if_neg (by omega),if_neg (by omega)];exact h.hp k d (by omega) h2 (by omega)
theorem Pp.next {f hi c:Nat} {D D':List Int} (h:Pp f hi (c+1) D) (hc:c+1<=hi) (hl:f+hi<=D.length) (hs:Sw f (f+c) (sw D f (f+c)) D') (hh:Hp f 0 c D'):Pp f hi c D':=by
 have e:=fun k=>getD_sw (l:=D) (i:=f) (j:=f+c) (k:=k) (by omega) (by omega);have ho:∀ q,c<=q->D'.getD (f+q) 0=(sw D f (f+c)).getD (f+q) 0:=fun q hq=>hs.out (by rw[sw_len];omega) (by omega);have htop:=h.hp.top
 have hall:∀ p,p<c->D'.getD (f+p) 0<=D.getD f 0:=fun p hp=>hs.all (Q:=fun z=>z<=D.getD f 0) (by rw[sw_len];omega) (fun k h1 h2=>by
  rw[e];split
  ·omega
  ·split
   ·exact htop c (by omega)
   ·have:=htop (k-f) (by omega);rw[show f+(k-f)=k by omega] at this;exact this) (f+p) (by omega) (by omega)
 have hall2:∀ p q,p<c->c+1<=q->q<hi->D'.getD (f+p) 0<=D.getD (f+q) 0:=fun p q hp h1 h2=>by
  have:=hall p hp;have:=h.le 0 q (by omega) h1 h2;rw[Nat.add_zero] at this;omega
 refine⟨hh,fun p q h1 h2 h3=>?_,fun p q h1 h2 h3=>?_⟩
 ·obtain⟨p',rfl⟩:∃ p',p=f+p':=⟨p-f,by omega⟩
  obtain⟨q',rfl⟩:∃ q',q=f+q':=⟨q-f,by omega⟩
  rw[ho p' (by omega),ho q' (by omega),e,e];by_cases hp:p'=c
  ·subst hp;rw[if_pos rfl];by_cases hq:q'=p'
   ·subst hq;rw[if_pos rfl];exact Int.le_refl _
   ·rw[if_neg (by omega),if_neg (by omega)];have:=h.le 0 q' (by omega) (by omega) (by omega)
    rwa [Nat.add_zero] at this
  ·rw[if_neg (by omega),if_neg (by omega),if_neg (by omega),if_neg (by omega)];exact h.sd _ _ (by omega) h2 h3
 ·rw[ho q h2,e];by_cases hq:q=c
  ·subst hq;rw[if_pos rfl];exact hall p h1
  ·rw[if_neg (by omega),if_neg (by omega)];exact hall2 p q h1 (by omega) h3
structure Pt (a b i j1:Nat) (D:List Int):Prop where
 lo:∀ k,a<k->k<i->D.getD k 0<D.getD a 0
 hi:∀ k,j1<=k->k<b->D.getD a 0<=D.getD k 0
theorem Pt.swap {a b i j:Nat} {D:List Int} (h:Pt a b i (j+1) D) (h1:a<i) (h2:i<=j) (h3:j<b) (hl:b<=D.length) (hlo:D.getD a 0<=D.getD i 0) (hhi:D.getD j 0<D.getD a 0):Pt a b (i+1) j (sw D i j):=by
 have e:=fun k=>getD_sw (l:=D) (i:=i) (j:=j) (k:=k) (by omega) (by omega);refine⟨fun k h4 h5=>?_,fun k h4 h5=>?_⟩
 ·rw[e,e,if_neg (show ¬ a=j by omega),if_neg (show ¬ a=i by omega)];by_cases hk:k=i
  ·subst hk;by_cases hkj:k=j
   ·subst hkj;rw[if_pos rfl];exfalso;omega
   ·rw[if_neg hkj,if_pos rfl];exact hhi
  ·rw[if_neg (by omega),if_neg hk];exact h.lo k h4 (by omega)
 ·rw[e,e,if_neg (show ¬ a=j by omega),if_neg (show ¬ a=i by omega)];by_cases hk:k=j
  ·subst hk;rw[if_pos rfl];exact hlo
  ·rw[if_neg hk,if_neg (by omega)];exact h.hi k (by omega) h5
structure Parted (a m b:Nat) (D:List Int):Prop where
 lo:∀ k,a<=k->k<m->D.getD k 0<=D.getD m 0
 hi:∀ k,m<k->k<b->D.getD m 0<=D.getD k 0
theorem Pt.done {a b j:Nat} {D:List Int} (h:Pt a b (j+1) (j+1) D) (h1:a<=j) (h3:j<b) (hl:b<=D.length):Parted a j b (sw D j a):=by
 have e:=fun k=>getD_sw (l:=D) (i:=j) (j:=a) (k:=k) (by omega) (by omega)
 have ej:(sw D j a).getD j 0=D.getD a 0:=by
  rw[e];by_cases hj:j=a
  ·rw[if_pos hj,hj]
  ·rw[if_neg hj,if_pos rfl]
 refine⟨fun k h4 h5=>?_,fun k h4 h5=>?_⟩
 ·rw[ej,e];by_cases hk:k=a
  ·rw[if_pos hk];have:=h.lo j (by omega) (by omega);omega
  ·rw[if_neg hk,if_neg (by omega)];have:=h.lo k (by omega) (by omega);omega
 ·rw[ej,e,if_neg (by omega),if_neg (by omega)];exact h.hi k (by omega) h5
theorem Parted.left {a m b:Nat} {D D':List Int} (h:Parted a m b D) (hl:b<=D.length) (hm:a<=m/\m<b) (hs:Sw a m D D') (h1:Sd a m D'):∀ D2,Sw (m+1) b D' D2->Sd (m+1) b D2->Sd a b D2:=by
 intro D2 h2 h3;have hlen:=hs.len;have o1:∀ k,k<=m->D2.getD k 0=D'.getD k 0:=fun k hk=>h2.out (by omega) (by omega);have em:D'.getD m 0=D.getD m 0:=hs.out (by omega) (by omega)
 have l1:∀ k,a<=k->k<m->D2.getD k 0<=D.getD m 0:=fun k h4 h5=>by
  rw[o1 k (by omega)];exact hs.all (Q:=fun z=>z<=D.getD m 0) (by omega) h.lo k h4 h5
 have l2:∀ k,m<k->k<b->D.getD m 0<=D2.getD k 0:=fun k h4 h5=>
  h2.all (Q:=fun z=>D.getD m 0<=z) (by omega) (fun k h6 h7=>by rw[hs.out (by omega) (by omega)];exact h.hi k (by omega) h7) k (by omega) h5
 intro p q h4 h5 h6;by_cases hq:q<m
 ·rw[o1 p (by omega),o1 q (by omega)];exact h1 p q h4 h5 hq
 ·by_cases hp:m<p
  ·exact h3 p q (by omega) h5 h6
  ·have a1:D2.getD p 0<=D.getD m 0:=by
    by_cases e:p=m
    ·subst e;rw[o1 p (by omega),em];exact Int.le_refl _
    ·exact l1 p h4 (by omega)
   have a2:D.getD m 0<=D2.getD q 0:=by
    by_cases e:q=m
    ·subst e;rw[o1 q (by omega),em];exact Int.le_refl _
    ·exact l2 q (by omega) h6
   omega
theorem Parted.right {a m b:Nat} {D D':List Int} (h:Parted a m b D) (hl:b<=D.length) (hm:a<=m/\m<b) (hs:Sw (m+1) b D D') (h1:Sd (m+1) b D'):∀ D2,Sw a m D' D2->Sd a m D2->Sd a b D2:=by
 intro D2 h2 h3;have hlen:=hs.len;have o1:∀ k,m<=k->D2.getD k 0=D'.getD k 0:=fun k hk=>h2.out (by omega) (by omega);have em:D'.getD m 0=D.getD m 0:=hs.out (by omega) (by omega)
 have l1:∀ k,a<=k->k<m->D2.getD k 0<=D.getD m 0:=fun k h4 h5=>
  h2.all (Q:=fun z=>z<=D.getD m 0) (by omega) (fun k h6 h7=>by rw[hs.out (by omega) (by omega)];exact h.lo k h6 h7) k h4 h5
 have l2:∀ k,m<k->k<b->D.getD m 0<=D2.getD k 0:=fun k h4 h5=>by
  rw[o1 k (by omega)];exact hs.all (Q:=fun z=>D.getD m 0<=z) (by omega) (fun k h6 h7=>h.hi k (by omega) h7) k (by omega) h5
 intro p q h4 h5 h6;by_cases hq:q<m
 ·exact h3 p q h4 h5 hq
 ·by_cases hp:m<p
  ·rw[o1 p (by omega),o1 q (by omega)];exact h1 p q (by omega) h5 h6
  ·have a1:D2.getD p 0<=D.getD m 0:=by
    by_cases e:p=m
    ·subst e;rw[o1 p (by omega),em];exact Int.le_refl _
    ·exact l1 p h4 (by omega)
   have a2:D.getD m 0<=D2.getD q 0:=by
    by_cases e:q=m
    ·subst e;rw[o1 q (by omega),em];exact Int.le_refl _
    ·exact l2 q (by omega) h6
   omega
structure Pe (a b i j1:Nat) (D:List Int):Prop where
 lo:∀ k,a<=k->k<i->D.getD k 0=D.getD a 0
 hi:∀ k,j1<=k->k<b->D.getD a 0<D.getD k 0
theorem Pe.swap {a b i j:Nat} {D:List Int} (h:Pe a b i (j+1) D) (h1:a<i) (h2:i<=j) (h3:j<b) (hl:b<=D.length) (hlo:D.getD a 0<D.getD i 0) (hhi:D.getD j 0=D.getD a 0):Pe a b (i+1) j (sw D i j):=by
 have e:=fun k=>getD_sw (l:=D) (i:=i) (j:=j) (k:=k) (by omega) (by omega);refine⟨fun k h4 h5=>?_,fun k h4 h5=>?_⟩
 ·rw[e,e,if_neg (show ¬ a=j by omega),if_neg (show ¬ a=i by omega)];by_cases hk:k=i
  ·subst hk;by_cases hkj:k=j
   ·subst hkj;exfalso;omega
   ·rw[if_neg hkj,if_pos rfl];exact hhi
  ·rw[if_neg (by omega),if_neg hk];exact h.lo k h4 (by omega)
 ·rw[e,e,if_neg (show ¬ a=j by omega),if_neg (show ¬ a=i by omega)];by_cases hk:k=j
  ·subst hk;rw[if_pos rfl];exact hlo
  ·rw[if_neg hk,if_neg (by omega)];exact h.hi k (by omega) h5
theorem Pe.done {a b m:Nat} {D:List Int} (h:Pe a b m m D) (hl:b<=D.length) (hm:a<m/\m<=b):∀ D2,Sw m b D D2->Sd m b D2->Sd a b D2:=by
 intro D2 h2 h3 p q h4 h5 h6;have o1:∀ k,k<m->D2.getD k 0=D.getD k 0:=fun k hk=>h2.out (by omega) (by omega);by_cases hp:m<=p
 ·exact h3 p q hp h5 h6
 ·rw[o1 p (by omega),h.lo p h4 (by omega)];by_cases hq:q<m
  ·rw[o1 q hq,h.lo q (by omega) hq];exact Int.le_refl _
  ·have:=h2.all (Q:=fun z=>D.getD a 0<z) (by omega) h.hi q (by omega) h6;omega
theorem Sd.more {a i:Nat} {D:List Int} (h:Sd a i D) (hi:a<i) (hn:D.getD (i-1) 0<=D.getD i 0):Sd a (i+1) D:=fun p q h1 h2 h3=>by
 by_cases hq:q=i
 ·by_cases hp:p=i
  ·rw[hp,hq];exact Int.le_refl _
  ·have:=h p (i-1) h1 (by omega) (by omega);rw[hq];omega
 ·exact h p q h1 h2 (by omega)
theorem Sd.pw {D:List Int} (h:Sd 0 D.length D):D.Pairwise (·<= ·):=by
 rw[List.pairwise_iff_getElem];intro i j hi hj hij;have:=h i j (by omega) (by omega) hj;simpa [List.getD_eq_getElem?_getD,List.getElem?_eq_getElem hi,List.getElem?_eq_getElem hj] using this
theorem Sd.keep {a b:Nat} {D D':List Int} (h:Sd a b D) (hk:∀ k,a<=k->k<b->D'.getD k 0=D.getD k 0):Sd a b D':=fun p q h1 h2 h3=>by
 rw[hk p h1 (by omega),hk q (by omega) h3];exact h p q h1 h2 h3
def Lo (a b:Nat) (L:List Int):Prop:=0<a->∀ k,a<=k->k<b->L.getD (a-1) 0<=L.getD k 0
theorem Lo.sw {a b:Nat} {L D:List Int} (h:Lo a b L) (s:Sw a b L D) (hb:b<=L.length):Lo a b D:=fun h0 k h1 h2=>by
 rw[s.out hb (k:=a-1) (by omega)];exact s.all (Q:=fun z=>L.getD (a-1) 0<=z) hb (h h0) k h1 h2
end Go.Proofs.YthomjcjnalfipaaGreatDoor
