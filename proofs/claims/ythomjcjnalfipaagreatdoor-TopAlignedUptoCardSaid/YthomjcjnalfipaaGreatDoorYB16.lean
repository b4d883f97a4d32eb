/- A part of the proofs of the Top laws. -/
import Derived.Deep.RegionHeld3
import Derived.Maps.Own
import Derived.Maps.OwnOps
import Derived.Test.YthomjcjnalfipaaGreatDoorRows
import Derived.ProofKit
import Derived.OpenShut
import Derived.ChangeOld
import Derived.Deep.Fields
import Derived.Test.YthomjcjnalfipaaGreatDoorYB15
set_option linter.all false
set_option maxRecDepth 100000
set_option maxHeartbeats 3200000
open Go.Lib (hid)
namespace Go.Proofs.YthomjcjnalfipaaGreatDoor
open Go.RowKit Go.Maps Go.WideMaps Go.ChangeMaps
theorem pairsOf_append:∀ (m:Nat) (x y:List Int),x.length=2*m->pairsOf (x++y)=pairsOf x++pairsOf y
 | 0,[],y,_=>rfl
 | 0,a::x,y,h=>by simp at h
 | m+1,[],y,h=>by simp at h
 | m+1,[a],y,h=>by simp at h;omega
 | m+1,a::b::x,y,h=>by
  simp only[List.length_cons] at h;simp only[List.cons_append,pairsOf];rw[pairsOf_append m x y (by omega)]
theorem pairsOf_snoc {l:List Int} {k:Nat} {a b:Int} (h1:l[2*k]? =some a) (h2:l[2*k+1]? =some b):pairsOf (l.take (2*k+2))=pairsOf (l.take (2*k))++[⟨a,b⟩]:=by
 rw[take_snoc h2,take_snoc h1,List.append_assoc,pairsOf_append k _ _ (by have:=lt_of_get h1;simp;omega)];rfl
theorem pairsOf_len:∀ (m:Nat) (l:List Int),l.length<=2*m->(pairsOf l).length<=m
 | 0,[],_=>by simp[pairsOf]
 | 0,a::x,h=>by simp at h
 | m+1,[],h=>by simp[pairsOf]
 | m+1,[a],h=>by simp[pairsOf]
 | m+1,a::b::x,h=>by
  simp only[List.length_cons] at h;have:=pairsOf_len m x (by omega);simp only[pairsOf,List.length_cons];omega
theorem class1_any (A:Option Addr) (n c:Nat) (l:List Int) (m:Nat) (w:World) (h:Runes w A n c l) (hn:n=2*m) (hm:m<=100) :
  Calls Tryz.prog 165 #[.slice A n c] w fun e w'=>∃ v,e=.returned v/\OwnR rSpan 30 2 w.heap.size w' v (pairsOf l)/\Ext w w':=by
 have hlen:=hid h.len;have H:=hid h;have HN:=hid hn;have hn2:n<=200:=by omega
 clear h hn;go_enter Tryz.func165,Tryz.ntmps165;go_wp2;go_loopw [3,4] (fun v i wr=>∃ (k i0:Nat),i=.int .i64 i0/\Hid (i0=2*k)/\i0<=n/\Hid (OwnR rSpan 30 2 w.heap.size wr v (pairsOf (l.take i0)))/\Hid (Ext w wr)) (fun _ i _=>n-(intOf i).toNat);case atStart=>exact⟨0,0,rfl,rfl,by omega,hid (OwnR.nil _ _ _ _ _),hid (Ext.refl _)⟩
 case round=>
  obtain⟨k,i0,rfl,HI,hk,HO,HX⟩:=hrel;have hi0:=HI.out;by_cases hlt:i0<n
  ·have hlt2:i0+1<n:=by have:=HN.out;omega
   obtain⟨x,hx⟩:=H.out.idx hlt;obtain⟨y,hy⟩:=H.out.idx hlt2;obtain⟨b,off,hAe,_,c1,xb1⟩:=H.out.rune hx;obtain⟨b2,off2,hAe2,_,c2,xb2⟩:=H.out.rune hy;subst hAe;cases hAe2
   have HP:Hid (pairsOf (l.take (i0+2))=pairsOf (l.take i0)++[⟨x,y⟩]):=hid (by
    subst hi0;exact pairsOf_snoc hx hy)
   have HQ:Hid (i0+2=2*(k+1)):=hid (by omega);have HLn:Hid ((pairsOf (l.take i0)).length<=100):=hid (pairsOf_len 100 _ (by simp;omega));have O2:=hid ((HO.out.ext (keep_span top) (Ext.refl wr).drew).ext (keep_span top) ((Ext.refl wr.drew).alloc (.cells #[.int .i32 x,.int .i32 y] 30)));have X2:=hid (HX.out.drew.alloc (.cells #[.int .i32 x,.int .i32 y] 30));have S2:=hid (span_new wr.drew ⟨x,y⟩ 30 xb1 xb2);obtain⟨i1,hi1⟩:∃ q,q=i0+1:=⟨_,rfl⟩
   rw[<- hi1] at c2;have KC:=hid (fun W (e:Ext w W)=>show W.cell? ⟨b,off+i0,none⟩=some (.int .i32 x)/\W.cell? ⟨b,off+i1,none⟩=some (.int .i32 y) from ⟨e.cell c1,e.cell c2⟩);have d1:=(KC.out wr HX.out).1;have d2:=(KC.out wr HX.out).2;have e1:(i0:Int)+1=(i1:Int):=by omega
   have w1':IntKind.i64.wrap ((i0:Int)+1)=(i1:Int):=by rw[IntKind.wrap_i64];omega
   have w1'':IntKind.i64.wrap (i1:Int)=(i1:Int):=by rw[IntKind.wrap_i64];omega
   have hi1n:i1<n:=by omega
   have g1:(i1:Int)<(n:Int):=by omega
   have g0:(i0:Int)<(n:Int):=by omega
   clear c1 c2 hx hy hi0 HO hi1 HI;go_wp2
   go_region_held3 (fun w'=>w'.cell? ⟨b,off+i0,none⟩=some (.int .i32 x)/\w'.cell? ⟨b,off+i1,none⟩=some (.int .i32 y))
    (first | go_keep | exact K3)
    (first
     | (refine step_appS T_span (by omega) rfl (.tmp 11) (.tmp 22) rfl rfl O2.out rfl S2.out (fun _ _ h=>h) one_span (keep_span bot) (bot_no _) ?_ X2.out.size ?_
        ·have:=HLn.out;omega
        intro v2 w2 o2 g2 hat2;have x2:=hid (X2.out.app g2 O2.out);have K3:=KC.out w2 x2.out;rw[<- HP.out] at o2;have o3:=hid o2
        clear o2 g2 hat2))
   clear d1 d2 K3;have w3':IntKind.i64.wrap ((i0:Int)+2)=(i0:Int)+2:=IntWalk.i64_in _ (by omega);go_wp2;go_roundw;case rel=>exact⟨k+1,i0+2,by go_num,HQ,by omega,o3,x2⟩
   case measure=>simp[intOf];omega
  ·have hO:=HO.out;rw[List.take_of_length_le (by rw[hlen.out];omega)] at hO;have HO2:=hid hO;clear hO HO hi0 HI;go_wp2;go_ret;exact⟨_,rfl,HO2.out,HX.out⟩
def MapAt (w:World) (b:Nat) (kv:List (Value×Value)):Prop:=∃ es clock,w.heap[b]? =some (.map es clock)/\es.toList.map (fun e=>(e.key,e.val))=kv
theorem MapAt.ext {w w':World} {b:Nat} {kv:List (Value×Value)} (h:MapAt w b kv) (e:Ext w w'):MapAt w' b kv:=by
 obtain⟨es,c,h1,h2⟩:=h;have hb:b<w.heap.size:=(Array.getElem?_eq_some_iff.1 h1).1;exact⟨es,c,(e.block hb).trans h1,h2⟩
theorem MapAt.made (w:World):MapAt (w.alloc (.map #[] 0)) w.heap.size []:=⟨#[],0,heap_alloc_new w _,rfl⟩
theorem MapAt.lt {w:World} {b:Nat} {kv:List (Value×Value)} (h:MapAt w b kv):b<w.heap.size:=by
 obtain⟨es,c,h1,h2⟩:=h;exact (Array.getElem?_eq_some_iff.1 h1).1
section
variable {P : Program} {k e t : TypeId} {w : World} {b : Nat} {kv : List (Value × Value)} {key : Value} {kl : Lit}
theorem MapAt.keys {es:Array MapEntry} (h2:es.toList.map (fun e=>(e.key,e.val))=kv) (hk:∀ p∈kv,∃ l,keyOf P k p.1=some l):∀ x∈es.toList,∃ l,keyOf P k x.key=some l:=
 fun x hx=>hk (x.key,x.val) (by rw[<- h2];exact List.mem_map.2 ⟨x,hx,rfl⟩)
theorem MapAt.look (K:Keyed P k) (ht:P.underlying t=some (.map k e)) {z:Value} (hz:∀ w,(zeroValue e).run P w=.ok z w) (h:MapAt w b kv) (hk:∀ p∈kv,∃ l,keyOf P k p.1=some l) (hkey:keyOf P k key=some kl) :
  ((∀ p∈kv,p.1≠key)/\(Instr.lookup t (.map (some b)) key true).run P w=.ok (.tuple #[z,.bool false]) w) \/
  ∃ p∈kv,p.1=key/\(Instr.lookup t (.map (some b)) key true).run P w=.ok (.tuple #[p.2,.bool true]) w:=by
 obtain⟨es,clock,hb,h2⟩:=h;rcases K.find w hkey es.toList (MapAt.keys h2 hk) with ⟨h1,h3⟩ | ⟨j,e0,h1,h3,h4⟩
 ·refine .inl ⟨fun p hp=>?_,?_⟩
  ·rw[<- h2] at hp;obtain⟨x,hx,rfl⟩:=List.mem_map.1 hp;exact h3 x hx
  ·simp[Instr.lookup,run_underlying ht,MapKept.run_getObj_map hb,K.check w _ hkey,h1,hz,Result.andThen]
 ·refine .inr ⟨(e0.key,e0.val),?_,h4,?_⟩
  ·rw[<- h2];exact List.mem_map.2 ⟨e0,List.mem_of_getElem? h3,rfl⟩
  ·simp[Instr.lookup,run_underlying ht,MapKept.run_getObj_map hb,K.check w _ hkey,h1,Result.andThen]
theorem MapAt.store (K:Keyed P k) (ht:P.underlying t=some (.map k e)) (h:MapAt w b kv) (hk:∀ p∈kv,∃ l,keyOf P k p.1=some l) (hkey:keyOf P k key=some kl) (hnew:∀ p∈kv,p.1≠key) (val:Value) :
  ∃ w',(Instr.mapUpdate t (.map (some b)) key val).run P w=.ok () w'/\MapAt w' b (kv++[(key,val)])/\w.grownBy w' (some b):=by
 obtain⟨es,clock,hb,h2⟩:=h;have hlt:b<w.heap.size:=(Array.getElem?_eq_some_iff.1 hb).1;rcases K.find w hkey es.toList (MapAt.keys h2 hk) with ⟨h1,h3⟩ | ⟨j,e0,h1,h3,h4⟩
 ·refine⟨setBlock w b (.map (es.push ⟨key,val,clock⟩) (clock+1)),?_,⟨_,_,heap_setBlock_same hb _,?_⟩,⟨rfl,rfl,rfl,by simp[setBlock],fun i _ hi=>heap_setBlock_other hb _ (fun e1=>hi (by rw[e1]))⟩⟩
  ·simp[Instr.mapUpdate,run_underlying ht,MapKept.run_getObj_map hb,K.check w false hkey,h1,MapKept.run_setObj_map _ hb,Result.andThen,setBlock]
  ·simp[h2]
 ·exact absurd h4 (hnew (e0.key,e0.val) (by rw[<- h2];exact List.mem_map.2 ⟨e0,List.mem_of_getElem? h3,rfl⟩))
theorem wpList_ins {ops:Array Oper} {rest:List Oper} {o:Oper} {a:Act} {Q:Exit->Act->World->Prop} (hg:o.guard=none) (m x v:Operand) (hop:o.op=Op.insert t m x v)
  (K:Keyed P k) (ht:P.underlying t=some (.map k e)) (hm:a.eval m=.map (some b)) (h:MapAt w b kv) (hk:∀ p∈kv,∃ l,keyOf P k p.1=some l) (key val:Value) (kl:Lit) (hx:a.eval x=key) (hv:a.eval v=val)
  (hkey:keyOf P k key=some kl) (hnew:∀ p∈kv,p.1≠key)
  (hK:∀ w',MapAt w' b (kv++[(key,val)])->w.grownBy w' (some b)->wpList P ops Q rest (a.put o.dst undef) w'):wpList P ops Q (o::rest) a w:=by
 refine wpList_plain hg fun K' hK'=>?_;obtain⟨w',hrun,r1,r2⟩:=h.store K ht hk hkey hnew val;unfold Oper.wp;simp[execOp,hop,hm,hx,hv,hrun,Result.andThen];exact hK' _ _ (hK w' r1 r2)
end
theorem lawS:Keyed Tryz.prog 9:=string_keyed Tryz.underlying9
theorem keyS {s:ByteArray} (h:s.size<=maxLen):keyOf Tryz.prog 9 (.string s)=some (.string s.data.toList):=keyOf_string_mk Tryz.underlying9 h
def nameS (i:Nat):ByteArray:=⟨((classT.getD i ([],[])).1).toArray⟩
def listS (i:Nat):List Int:=(classT.getD i ([],[])).2
structure ClM (w:World) (b k:Nat) (W:World):Prop where
 ext:Ext w W
 low:w.heap.size<=b
 map:∃ kv,MapAt W b kv/\kv.length=k/\k<=9/\∀ i p,kv[i]? =some p->∃ A n c,p=(.string (nameS i),.slice A n c)/\SlR rSpan 2 (fun x=>w.heap.size<=x/\x≠b) W A n c (pairsOf (listS i))
theorem listS_i32 (k:Nat):∀ r∈listS k,i32 r:=by
 have key:∀ l:List Int,l.all (fun r=>decide (-2147483648<=r)&&decide (r<=2147483647))=true->∀ r∈l,i32 r:=by
  intro l hl r hr;rw[List.all_eq_true] at hl;have:=hl r hr;simpa [i32] using this
 match k with
 | 0 | 1 | 2 | 3 | 4 | 5 | 6 | 7 | 8=>exact key _ (by decide)
 | n+9=>intro r hr;simp[listS,classT] at hr
theorem nameS_small (i:Nat):(nameS i).size<=maxLen:=by
 unfold nameS;rw[List.getD_eq_getElem?_getD]
 match i with
 | 0 | 1 | 2 | 3 | 4 | 5 | 6 | 7 | 8=>decide
 | n+9=>simp[classT,ByteArray.size]
theorem nameS_inj:∀ i j:Fin 9,nameS i.val=nameS j.val->i=j:=by decide
theorem ClM.start (w:World):ClM w w.heap.size 0 (w.alloc (.map #[] 0)):=⟨(Ext.refl w).alloc _,Nat.le_refl _,[],MapAt.made w,rfl,by omega,fun i p h=>by simp at h⟩
theorem ClM.more {w:World} {b k:Nat} {W W':World} (h:ClM w b k W) (e:Ext W W'):ClM w b k W':=by
 obtain⟨kv,h1,h2,h3,h4⟩:=h.map;refine⟨h.ext.trans e,h.low,kv,h1.ext e,h2,h3,fun i p hp=>?_⟩;obtain⟨A,n,c,e1,hs⟩:=h4 i p hp;exact⟨A,n,c,e1,hs.ext (keep_span _) e⟩
theorem ClM.keys {w:World} {b:Nat} {W:World} {kv:List (Value×Value)} (h4:∀ i p,kv[i]? =some p->∃ A n c,p=(.string (nameS i),.slice A n c)/\SlR rSpan 2 (fun x=>w.heap.size<=x/\x≠b) W A n c (pairsOf (listS i))) :
  ∀ p∈kv,∃ l,keyOf Tryz.prog 9 p.1=some l:=fun p hp=>by
 obtain⟨i,hi⟩:=List.getElem?_of_mem hp;obtain⟨A,n,c,rfl,_⟩:=h4 i p hi;exact⟨_,keyS (nameS_small i)⟩
theorem wpList_cls {ops:Array Oper} {rest:List Oper} {o:Oper} {a:Act} {Q:Exit->Act->World->Prop} {w W:World} {b k:Nat} (h:ClM w b k W) (hg:o.guard=none) (m x v:Operand) (hop:o.op=Op.insert 151 m x v) (hk9:k<9)
  (hm:a.eval m=.map (some b)) {key:ByteArray} (hx:a.eval x=.string key) (hkey:key=nameS k) {A:Option Addr} {n c:Nat} (hv:a.eval v=.slice A n c) (hs:SlR rSpan 2 (fun x=>w.heap.size<=x/\x≠b) W A n c (pairsOf (listS k)))
  (hK:∀ W',ClM w b (k+1) W'->wpList Tryz.prog ops Q rest (a.put o.dst undef) W'):wpList Tryz.prog ops Q (o::rest) a W:=by
 obtain⟨kv,h1,h2,h3,h4⟩:=h.map;subst hkey;refine wpList_ins hg m x v hop lawS Tryz.underlying151 hm h1 (ClM.keys h4) (.string (nameS k)) (.slice A n c) _ hx hv (keyS (nameS_small k)) ?_ ?_
 ·intro p hp e;obtain⟨i,hi⟩:=List.getElem?_of_mem hp;obtain⟨A',n',c',rfl,_⟩:=h4 i p hi;have hik:=lt_of_get hi;have:(⟨i,by omega⟩:Fin 9)=⟨k,hk9⟩:=nameS_inj ⟨i,by omega⟩ ⟨k,hk9⟩ (by simpa using e);simp at this;omega
 ·intro W' m' g';refine hK W' ⟨h.ext.grown g' (fun q hq=>by rw[<- Option.some.inj hq];exact h.low),h.low,_,m',by simp[h2],by omega,fun i p hp=>?_⟩;have hag:Agree (fun x=>w.heap.size<=x/\x≠b) W W':=grown_agree g' (fun q hq hok=>hok.2 (Option.some.inj hq).symm);rw[List.getElem?_append] at hp;split at hp
  ·obtain⟨A',n',c',e1,hs'⟩:=h4 i p hp;exact⟨A',n',c',e1,hs'.keep (keep_span _) hag⟩
  ·have hi:i=k:=by have:=lt_of_get hp;simp at this;omega
   subst hi;rw[h2,Nat.sub_self] at hp;cases hp;exact⟨A,n,c,rfl,hs.keep (keep_span _) hag⟩
theorem class_find {s:ByteArray}:(∀ i<9,nameS i≠s)->classV s=none:=fun h=>by
 unfold classV;rw[Option.map_eq_none_iff,List.find?_eq_none];intro p hp e;obtain⟨i,hi⟩:=List.getElem?_of_mem hp;have hlt:i<9:=lt_of_get hi;refine h i hlt ?_;unfold nameS;rw[List.getD_eq_getElem?_getD,hi];have e:p.1=s.data.toList:=by simpa using e
 show ByteArray.mk p.1.toArray=s;rw[e]
theorem class_hit:∀ i:Fin 9,classV (nameS i.val)=some (pairsOf (listS i.val)):=by decide
theorem ClM.look {w:World} {b:Nat} {W:World} (h:ClM w b 9 W) (s:ByteArray) (hs:s.size<=maxLen) :
  ∃ A n c,(Instr.lookup 151 (.map (some b)) (.string s) true).run Tryz.prog W=.ok (.tuple #[.slice A n c,.bool (classV s).isSome]) W/\SlR rSpan 2 (fun x=>w.heap.size<=x) W A n c ((classV s).getD []):=by
 obtain⟨kv,h1,h2,h3,h4⟩:=h.map;rcases h1.look lawS Tryz.underlying151 (z:=.slice none 0 0) (fun w=>by kernel_rfl) (ClM.keys h4) (keyS hs) with ⟨e1,e2⟩ | ⟨p,hp,e1,e2⟩
 ·have hc:classV s=none:=class_find fun i hi e=>by
   obtain⟨p,hp⟩:∃ p,kv[i]? =some p:=⟨_,List.getElem?_eq_getElem (by omega)⟩
   obtain⟨A,n,c,rfl,_⟩:=h4 i p hp;exact e1 _ (List.mem_of_getElem? hp) (by rw[e])
  refine⟨none,0,0,?_,?_⟩
  ·rw[hc];exact e2
  ·rw[hc];exact SlR.nil _ _ _ _ _ _ (by unfold maxLen;omega)
 ·obtain⟨i,hi⟩:=List.getElem?_of_mem hp;obtain⟨A,n,c,rfl,hsl⟩:=h4 i p hi;have hlt:i<9:=by have:=lt_of_get hi;omega
  have hn:nameS i=s:=by simpa using e1
  have hc:=class_hit ⟨i,hlt⟩;simp only[hn] at hc;refine⟨A,n,c,?_,?_⟩
  ·rw[hc];exact e2
  ·rw[hc];exact hsl.mono (fun _ _ h=>h) (fun _ h=>h.1)
theorem runes_fresh (W:World) (l:List Int) (n:Nat) (hl:l.length=n) (h:∀ r∈l,i32 r) (hn:n<=100):Runes (W.alloc (.cells (l.map (Value.int .i32)).toArray 21)) (some ⟨W.heap.size,0,none⟩) n n l:=
 SlR.fresh hl (by unfold maxLen;omega) fun k x hx=>⟨[.int .i32 x],rfl,⟨rfl,h x (List.mem_of_getElem? hx)⟩,fun j u hu=>by
  match j,hu with
  | 0,hu=>simp at hu;subst hu;simp[hx]
  | j+1,hu=>simp at hu⟩
theorem class1_fresh {w:World} {b k:Nat} {W:World} (h:ClM w b k W) (hk:k<9) (m n:Nat) (hn:n=2*m) (hm:m<=20) (hl:(listS k).length=n) (hi:∀ r∈listS k,i32 r) :
  Calls Tryz.prog 165 #[.slice (some ⟨W.heap.size,0,none⟩) n n] (W.alloc (.cells ((listS k).map (Value.int .i32)).toArray 21)) fun e w'=>∃ A q c,e=.returned (.slice A q c)/\SlR rSpan 2 (fun x=>w.heap.size<=x/\x≠b) w' A q c (pairsOf (listS k))/\ClM w b k w':=by
 refine (class1_any _ n n (listS k) m _ (runes_fresh W _ n hl hi (by omega)) hn (by omega)).mono ?_;rintro e w' ⟨v,rfl,ov,x⟩;obtain⟨A,c,rfl,s⟩:=ov.sl;obtain⟨kv,h1,_⟩:=h.map;have hb:=h1.lt;have hw:=h.ext.size;exact⟨A,_,c,rfl,s.mono (fun _ _ h=>h) (fun x hx=>by simp at hx;exact⟨by omega,by omega⟩),h.more (((Ext.refl W).alloc _).trans x)⟩
theorem class_any (s:ByteArray) (hs:s.size<=maxLen) (w:World) :
  Calls Tryz.prog 145 #[.string s] w fun e w'=>∃ A n c,e=.returned (.tuple #[.slice A n c,.bool (classV s).isSome])/\SlR rSpan 2 (fun x=>w.heap.size<=x) w' A n c ((classV s).getD [])/\Ext w w':=by
 have hmm:=@run_makeMap Tryz.prog;have M0:=hid (ClM.start w);have CL:=hid (fun W (h:ClM w w.heap.size 9 W)=>h.look s hs);have C0:Hid (∀ W bb,ClM w w.heap.size 0 W->W.heap.size=bb->Calls Tryz.prog 165 #[.slice (some ⟨bb,0,none⟩) 2 2] (W.alloc (.cells #[.int .i32 48,.int .i32 57] 21)) fun e w'=>∃ A q c,e=.returned (.slice A q c)/\SlR rSpan 2 (fun x=>w.heap.size<=x/\x≠w.heap.size) w' A q c (pairsOf (listS 0))/\ClM w w.heap.size 0 w'):=hid (fun W bb h hb=>by subst hb;exact class1_fresh h (by omega) 1 2 (by omega) (by omega) (by decide) (listS_i32 _));have C1:Hid (∀ W bb,ClM w w.heap.size 1 W->W.heap.size=bb->Calls Tryz.prog 165 #[.slice (some ⟨bb,0,none⟩) 6 6] (W.alloc (.cells #[.int .i32 97,.int .i32 122,.int .i32 223,.int .i32 246,.int .i32 248,.int .i32 255] 21)) fun e w'=>∃ A q c,e=.returned (.slice A q c)/\SlR rSpan 2 (fun x=>w.heap.size<=x/\x≠w.heap.size) w' A q c (pairsOf (listS 1))/\ClM w w.heap.size 1 w'):=hid (fun W bb h hb=>by subst hb;exact class1_fresh h (by omega) 3 6 (by omega) (by omega) (by decide) (listS_i32 _));have C2:Hid (∀ W bb,ClM w w.heap.size 2 W->W.heap.size=bb->Calls Tryz.prog 165 #[.slice (some ⟨bb,0,none⟩) 6 6] (W.alloc (.cells #[.int .i32 65,.int .i32 90,.int .i32 192,.int .i32 214,.int .i32 216,.int .i32 222] 21)) fun e w'=>∃ A q c,e=.returned (.slice A q c)/\SlR rSpan 2 (fun x=>w.heap.size<=x/\x≠w.heap.size) w' A q c (pairsOf (listS 2))/\ClM w w.heap.size 2 w'):=hid (fun W bb h hb=>by subst hb;exact class1_fresh h (by omega) 3 6 (by omega) (by omega) (by decide) (listS_i32 _));have C3:Hid (∀ W bb,ClM w w.heap.size 3 W->W.heap.size=bb->Calls Tryz.prog 165 #[.slice (some ⟨bb,0,none⟩) 10 10] (W.alloc (.cells #[.int .i32 65,.int .i32 90,.int .i32 97,.int .i32 122,.int .i32 192,.int .i32 214,.int .i32 216,.int .i32 246,.int .i32 248,.int .i32 255] 21)) fun e w'=>∃ A q c,e=.returned (.slice A q c)/\SlR rSpan 2 (fun x=>w.heap.size<=x/\x≠w.heap.size) w' A q c (pairsOf (listS 3))/\ClM w w.heap.size 3 w'):=hid (fun W bb h hb=>by subst hb;exact class1_fresh h (by omega) 5 10 (by omega) (by omega) (by decide) (listS_i32 _));have C4:Hid (∀ W bb,ClM w w.heap.size 4 W->W.heap.size=bb->Calls Tryz.prog 165 #[.slice (some ⟨bb,0,none⟩) 20 20] (W.alloc (.cells #[.int .i32 65,.int .i32 65,.int .i32 69,.int .i32 69,.int .i32 73,.int .i32 73,.int .i32 79,.int .i32 79,.int .i32 85,.int .i32 85,.int .i32 97,.int .i32 97,.int .i32 101,.int .i32 101,.int .i32 105,.int .i32 105,.int .i32 111,.int .i32 111,.int .i32 117,.int .i32 117] 21)) fun e w'=>∃ A q c,e=.returned (.slice A q c)/\SlR rSpan 2 (fun x=>w.heap.size<=x/\x≠w.heap.size) w' A q c (pairsOf (listS 4))/\ClM w w.heap.size 4 w'):=hid (fun W bb h hb=>by subst hb;exact class1_fresh h (by omega) 10 20 (by omega) (by omega) (by decide) (listS_i32 _));have C5:Hid (∀ W bb,ClM w w.heap.size 5 W->W.heap.size=bb->Calls Tryz.prog 165 #[.slice (some ⟨bb,0,none⟩) 2 2] (W.alloc (.cells #[.int .i32 880,.int .i32 1023] 21)) fun e w'=>∃ A q c,e=.returned (.slice A q c)/\SlR rSpan 2 (fun x=>w.heap.size<=x/\x≠w.heap.size) w' A q c (pairsOf (listS 5))/\ClM w w.heap.size 5 w'):=hid (fun W bb h hb=>by subst hb;exact class1_fresh h (by omega) 1 2 (by omega) (by omega) (by decide) (listS_i32 _));have C6:Hid (∀ W bb,ClM w w.heap.size 6 W->W.heap.size=bb->Calls Tryz.prog 165 #[.slice (some ⟨bb,0,none⟩) 2 2] (W.alloc (.cells #[.int .i32 1024,.int .i32 1279] 21)) fun e w'=>∃ A q c,e=.returned (.slice A q c)/\SlR rSpan 2 (fun x=>w.heap.size<=x/\x≠w.heap.size) w' A q c (pairsOf (listS 6))/\ClM w w.heap.size 6 w'):=hid (fun W bb h hb=>by subst hb;exact class1_fresh h (by omega) 1 2 (by omega) (by omega) (by decide) (listS_i32 _));have C7:Hid (∀ W bb,ClM w w.heap.size 7 W->W.heap.size=bb->Calls Tryz.prog 165 #[.slice (some ⟨bb,0,none⟩) 4 4] (W.alloc (.cells #[.int .i32 9,.int .i32 10,.int .i32 32,.int .i32 32] 21)) fun e w'=>∃ A q c,e=.returned (.slice A q c)/\SlR rSpan 2 (fun x=>w.heap.size<=x/\x≠w.heap.size) w' A q c (pairsOf (listS 7))/\ClM w w.heap.size 7 w'):=hid (fun W bb h hb=>by subst hb;exact class1_fresh h (by omega) 2 4 (by omega) (by omega) (by decide) (listS_i32 _));have C8:Hid (∀ W bb,ClM w w.heap.size 8 W->W.heap.size=bb->Calls Tryz.prog 165 #[.slice (some ⟨bb,0,none⟩) 2 2] (W.alloc (.cells #[.int .i32 0,.int .i32 1114111] 21)) fun e w'=>∃ A q c,e=.returned (.slice A q c)/\SlR rSpan 2 (fun x=>w.heap.size<=x/\x≠w.heap.size) w' A q c (pairsOf (listS 8))/\ClM w w.heap.size 8 w'):=hid (fun W bb h hb=>by subst hb;exact class1_fresh h (by omega) 1 2 (by omega) (by omega) (by decide) (listS_i32 _));go_enter Tryz.func145,Tryz.ntmps145
 go_wp2_with (first
  | (go_at_call 165;((with_reducible refine (C0.out _ _ M0.out (by first | rfl | simp)).mono ?_);rintro e w0 ⟨A0,n0,c0,rfl,s0,m0⟩;have S0:=hid s0;have N0:=hid m0;clear s0 m0 M0 C0))
  | (refine wpList_cls N0.out rfl _ _ _ rfl (by omega) rfl rfl (by decide) rfl S0.out ?_;intro v0 m0;have M1:=hid m0;clear m0 N0 S0)
  | (go_at_call 165;((with_reducible refine (C1.out _ _ M1.out (by first | rfl | simp)).mono ?_);rintro e w1 ⟨A1,n1,c1,rfl,s1,m1⟩;have S1:=hid s1;have N1:=hid m1;clear s1 m1 M1 C1))
  | (refine wpList_cls N1.out rfl _ _ _ rfl (by omega) rfl rfl (by decide) rfl S1.out ?_;intro v1 m1;have M2:=hid m1;clear m1 N1 S1)
  | (go_at_call 165;((with_reducible refine (C2.out _ _ M2.out (by first | rfl | simp)).mono ?_);rintro e w2 ⟨A2,n2,c2,rfl,s2,m2⟩;have S2:=hid s2;have N2:=hid m2;clear s2 m2 M2 C2))
  | (refine wpList_cls N2.out rfl _ _ _ rfl (by omega) rfl rfl (by decide) rfl S2.out ?_;intro v2 m2;have M3:=hid m2;clear m2 N2 S2)
  | (go_at_call 165;((with_reducible refine (C3.out _ _ M3.out (by first | rfl | simp)).mono ?_);rintro e w3 ⟨A3,n3,c3,rfl,s3,m3⟩;have S3:=hid s3;have N3:=hid m3;clear s3 m3 M3 C3))
  | (refine wpList_cls N3.out rfl _ _ _ rfl (by omega) rfl rfl (by decide) rfl S3.out ?_;intro v3 m3;have M4:=hid m3;clear m3 N3 S3)
  | (go_at_call 165;((with_reducible refine (C4.out _ _ M4.out (by first | rfl | simp)).mono ?_);rintro e w4 ⟨A4,n4,c4,rfl,s4,m4⟩;have S4:=hid s4;have N4:=hid m4;clear s4 m4 M4 C4))
  | (refine wpList_cls N4.out rfl _ _ _ rfl (by omega) rfl rfl (by decide) rfl S4.out ?_;intro v4 m4;have M5:=hid m4;clear m4 N4 S4)
  | (go_at_call 165;((with_reducible refine (C5.out _ _ M5.out (by first | rfl | simp)).mono ?_);rintro e w5 ⟨A5,n5,c5,rfl,s5,m5⟩;have S5:=hid s5;have N5:=hid m5;clear s5 m5 M5 C5))
  | (refine wpList_cls N5.out rfl _ _ _ rfl (by omega) rfl rfl (by decide) rfl S5.out ?_;intro v5 m5;have M6:=hid m5;clear m5 N5 S5)
  | (go_at_call 165;((with_reducible refine (C6.out _ _ M6.out (by first | rfl | simp)).mono ?_);rintro e w6 ⟨A6,n6,c6,rfl,s6,m6⟩;have S6:=hid s6;have N6:=hid m6;clear s6 m6 M6 C6))
  | (refine wpList_cls N6.out rfl _ _ _ rfl (by omega) rfl rfl (by decide) rfl S6.out ?_;intro v6 m6;have M7:=hid m6;clear m6 N6 S6)
  | (go_at_call 165;((with_reducible refine (C7.out _ _ M7.out (by first | rfl | simp)).mono ?_);rintro e w7 ⟨A7,n7,c7,rfl,s7,m7⟩;have S7:=hid s7;have N7:=hid m7;clear s7 m7 M7 C7))
  | (refine wpList_cls N7.out rfl _ _ _ rfl (by omega) rfl rfl (by decide) rfl S7.out ?_;intro v7 m7;have M8:=hid m7;clear m7 N7 S7)
  | (go_at_call 165;((with_reducible refine (C8.out _ _ M8.out (by first | rfl | simp)).mono ?_);rintro e w8 ⟨A8,n8,c8,rfl,s8,m8⟩;have S8:=hid s8;have N8:=hid m8;clear s8 m8 M8 C8))
  | (refine wpList_cls N8.out rfl _ _ _ rfl (by omega) rfl rfl (by decide) rfl S8.out ?_;intro v8 m8;have M9:=hid m8;clear m8 N8 S8)
  )
 obtain⟨A,n,c,hl,sl⟩:=CL.out v8 M9.out;rw[hl];simp only[Result.andThen];rw[Oper.upon_value];have SL:=hid sl;clear hl sl CL;go_wp2;go_ret2;exact⟨A,n,c,rfl,SL.out,M9.out.ext⟩
end Go.Proofs.YthomjcjnalfipaaGreatDoor
namespace Go.Proofs.YthomjcjnalfipaaGreatDoor
open Go.RowKit
def rS (base:Nat):List Sp->World->Value->Prop:=fun s w v=>∃ A n c,v=.slice A n c/\SlR rSpan 2 (fun b=>base<=b) w A n c s
theorem Mv.sp {w w':World} {B j base:Nat} {A:Option Addr} {n c:Nat} {s:List Sp} (m:Mv B j w w') (hB:B<base) (h:SlR rSpan 2 (fun b=>base<=b) w A n c s):SlR rSpan 2 (fun b=>base<=b) w' A n c s:=
 h.keep (keep_span _) (m.agree.mono fun b hb=>by omega)
theorem nameB_size {L:List Int} {a b:Nat} (hb:b<=L.length):(nameB L a b).size<=4*(b-a):=by
 have:=runesBytes_size_le ((L.take b).drop a);have hl:((L.take b).drop a).length=b-a:=by simp;omega
 unfold nameB;rw[hl] at this;exact this
theorem clsC_any (B:Nat) (A:Option Addr) (n c:Nat) (L:List Int) (k:Nat) (w:World) (h:CurAt w B A n c L k) (hk2:k+2<=n) :
  Calls Tryz.prog 112 #[.pointer (some ⟨B,0,none⟩)] w fun e w'=>PRet w B (classF L k) (rS w.heap.size) e w':=by
 have H:=hid h;have HI:=hid h.i32;have HL:=hid h.row.len;have hnb:=h.nb;have c0:=h.c0;have c1:=h.c1;have hfz:=h.fz;have hl:=h.lt;have wk:IntKind.i64.wrap ((k:Int)+2)=(k:Int)+2:=IntWalk.i64_in _ (by omega);have H1:=hid (h.setX (x:=(k:Int)+2) (j:=k+2) (by omega) (by omega));have HM1:=hid ((Mv.refl h).setX h (x:=(k:Int)+2) (i:=k+2) (by omega));have h1:=H1.out.c1;obtain⟨V,hV⟩:∃ V,V=classF L k:=⟨_,rfl⟩
 rw[<- hV];obtain⟨E,hE⟩:∃ E,E=scanF plainB L (k+2):=⟨_,rfl⟩
 have hE0:k+2<=E:=by rw[hE];exact scanF_ge
 have hEn:E<=n:=by rw[hE,<- HL.out];exact scanF_le (by have:=HL.out;omega)
 unfold classF at hV;dsimp only at hV;rw[<- hE] at hV;have HV:=hid hV;have HE:=hid hE.symm;clear hV hE h;go_enter Tryz.func112,Tryz.ntmps112;go_wp2;go_loopw [] (fun wr=>∃ j:Nat,k+2<=j/\j<=n/\Hid (scanF plainB L j=E)/\Hid (Mv B j w wr)) (fun wr=>n-atOf B wr);case atStart=>exact⟨k+2,by omega,by omega,HE,HM1⟩
 case round=>
  clear HE c0 c1 hfz hl h1 H1 HM1;obtain⟨j,hj0,hj,HT,HM⟩:=hrel;have hC:=H.out.mv HM.out hj;have C1:=hid (fun W (e:Ext wr W)=>Peek_any B A n c L j W (hC.ext e));have C2:=hid (fun W=>Plain_any (lookF L j) W (lookF_i32 HI.out j));cases hb:plainB (lookF L j)
  ·have hje:j=E:=(scanF_stop hb).symm.trans HT.out;subst hje;rw[hb] at C2;have hsl:=fun W=>run_cut_lh T_rune A n c ((k:Int)+2) (j:Int) (k+2) j (by omega) rfl hE0 (by have:=H.out.row.cap;omega) W;have hcv:=fun W (hW:CurAt W B A n c L j)=>hW.str hE0 hj;obtain⟨t,ht⟩:∃ t,t=nameB L (k+2) j:=⟨_,rfl⟩
   have hts:t.size<=maxLen:=by
    have:=nameB_size (L:=L) (a:=k+2) (b:=j) (by have:=HL.out;omega);rw[ht];unfold maxLen;omega
   have CC:=hid (fun W=>class_any t hts W);rw[<- ht] at hcv;have HCV:=hid hcv;have hV:=HV.out;rw[<- ht] at hV;have HC:=hid hC;clear ht hC hb HT hcv HV hts;generalize lookF L j=r at C1 C2
   cases hcl:classV t with
   | none=>
    rw[hcl] at hV CC;dsimp only at hV;subst hV;have CF:=hid (fun W=>Fail_any 7 ((k:Int)+2) W)
    go_wp2_with (first
     | (go_at_call 46;((with_reducible refine (C1.out _ (Ext.refl _)).mono ?_);rintro e w1 ⟨rfl,x1⟩;have X1:=hid x1;clear x1))
     | (go_at_call 144;((with_reducible refine (C2.out _).mono ?_);rintro e w2 ⟨rfl,x2⟩;have X2:=hid (X1.out.trans x2);have hc2:=HC.out.ext X2.out;have k0:=hc2.c0;have k1:=hc2.c1;have kz:=hc2.fz;have kl:=hc2.lt;have HC2:=hid hc2;clear x2 hc2)))
    have hcv:=HCV.out _ HC2.out;have hcd:=HCV.out _ (HC2.out.ext (Ext.refl w2).drew)
    go_region_held3 (fun w'=>w'.cell? ⟨B,0,none⟩=some (.slice A n c)/\w'.cell? ⟨B,1,none⟩=some (.int .i64 j)/\(convert 31 9 (.slice (cutA A c (k+2) 1) (j-(k+2)) (c-(k+2)))).run Tryz.prog w'=.ok (.string t) w')
     (first | go_keep | exact⟨k0,k1,hcd⟩ | exact⟨kk0,kk,hce⟩)
     (first
      | (go_at_call 145;((with_reducible refine (CC.out _).mono ?_);rintro e w3 ⟨A2,n2,c2,rfl,s3,x3⟩;have X3:=hid (X2.out.trans ((Ext.refl w2).drew.trans x3));have hc3:=HC.out.ext X3.out;have S3:=hid (s3.mono (fun _ _ h=>h) (fun b hb=>Nat.le_trans (Nat.le_trans HM.out.size X2.out.size) hb));have HC3:=hid hc3;have hce:=HCV.out _ hc3;have kk0:=hc3.c0;have kk:=hc3.c1;have kq:=hc3.fz;have kr:=hc3.lt;have M3:=hid (HM.out.ext X3.out);clear s3 x3 hc3)))
    go_wp2_with (first
     | (go_at_call 44;((with_reducible refine (CF.out _).mono ?_);rintro e w4 ⟨rfl,rfl⟩)))
    exact⟨rfl,rfl,_,M3.out⟩
   | some s=>
    rw[hcl] at hV CC;dsimp only at hV;have CN:=hid (fun W (hW:CurAt W B A n c L j)=>Need_any B A n c L j 58 W hW (by omega));by_cases h58:lookF L j=58
    ·have hj1:j<n:=by have:=look_lt' h58 (by omega);have:=HL.out;omega
     have e1:needF L 58 j=.ok () (j+1):=by unfold needF;rw[if_pos h58]
     rw[e1] at hV CN;have CN2:=hid (fun W (hW:CurAt W B A n c L (j+1))=>Need_any B A n c L (j+1) 93 W hW (by omega));simp only[PR.bind] at hV;by_cases h93:lookF L (j+1)=93
     ·have hj2:j+1<n:=by have:=look_lt' h93 (by omega);have:=HL.out;omega
      have e2:needF L 93 (j+1)=.ok () (j+2):=by unfold needF;rw[if_pos h93]
      rw[e2] at hV CN2;dsimp only at hV;subst hV;clear h58 h93 e1 e2
      go_wp2_with (first
       | (go_at_call 46;((with_reducible refine (C1.out _ (Ext.refl _)).mono ?_);rintro e w1 ⟨rfl,x1⟩;have X1:=hid x1;clear x1))
       | (go_at_call 144;((with_reducible refine (C2.out _).mono ?_);rintro e w2 ⟨rfl,x2⟩;have X2:=hid (X1.out.trans x2);have hc2:=HC.out.ext X2.out;have k0:=hc2.c0;have k1:=hc2.c1;have kz:=hc2.fz;have kl:=hc2.lt;have HC2:=hid hc2;clear x2 hc2)))
      have hcv:=HCV.out _ HC2.out;have hcd:=HCV.out _ (HC2.out.ext (Ext.refl w2).drew)
      go_region_held3 (fun w'=>w'.cell? ⟨B,0,none⟩=some (.slice A n c)/\w'.cell? ⟨B,1,none⟩=some (.int .i64 j)/\(convert 31 9 (.slice (cutA A c (k+2) 1) (j-(k+2)) (c-(k+2)))).run Tryz.prog w'=.ok (.string t) w')
       (first | go_keep | exact⟨k0,k1,hcd⟩ | exact⟨kk0,kk,hce⟩)
       (first
        | (go_at_call 145;((with_reducible refine (CC.out _).mono ?_);rintro e w3 ⟨A2,n2,c2,rfl,s3,x3⟩;have X3:=hid (X2.out.trans ((Ext.refl w2).drew.trans x3));have hc3:=HC.out.ext X3.out;have S3:=hid (s3.mono (fun _ _ h=>h) (fun b hb=>Nat.le_trans (Nat.le_trans HM.out.size X2.out.size) hb));have HC3:=hid hc3;have hce:=HCV.out _ hc3;have kk0:=hc3.c0;have kk:=hc3.c1;have kq:=hc3.fz;have kr:=hc3.lt;have M3:=hid (HM.out.ext X3.out);clear s3 x3 hc3)))
      go_wp2_with (first
       | (go_at_call 48;((with_reducible refine (CN.out _ HC3.out).mono ?_);rintro e w4 ⟨v,rfl,rfl,m4⟩;have M4:=hid (M3.out.trans H.out m4);have HC4:=hid (H.out.mv M4.out (by omega));have S4:=hid (m4.sp H.out.lt.1 S3.out);clear m4 HC3 CN))
       | (go_at_call 48;((with_reducible refine (CN2.out _ HC4.out).mono ?_);rintro e w5 ⟨v,rfl,rfl,m5⟩;have M5:=hid (M4.out.trans H.out m5);have S5:=hid (m5.sp H.out.lt.1 S4.out);clear m5)))
      go_ret;exact⟨_,rfl,⟨A2,n2,c2,rfl,S5.out⟩,M5.out⟩
     ·have e2:needF L 93 (j+1)=.fail 2 (j+1):=by unfold needF;rw[if_neg h93]
      rw[e2] at hV CN2;dsimp only at hV;subst hV;clear h58 h93 e1 e2
      go_wp2_with (first
       | (go_at_call 46;((with_reducible refine (C1.out _ (Ext.refl _)).mono ?_);rintro e w1 ⟨rfl,x1⟩;have X1:=hid x1;clear x1))
       | (go_at_call 144;((with_reducible refine (C2.out _).mono ?_);rintro e w2 ⟨rfl,x2⟩;have X2:=hid (X1.out.trans x2);have hc2:=HC.out.ext X2.out;have k0:=hc2.c0;have k1:=hc2.c1;have kz:=hc2.fz;have kl:=hc2.lt;have HC2:=hid hc2;clear x2 hc2)))
      have hcv:=HCV.out _ HC2.out;have hcd:=HCV.out _ (HC2.out.ext (Ext.refl w2).drew)
      go_region_held3 (fun w'=>w'.cell? ⟨B,0,none⟩=some (.slice A n c)/\w'.cell? ⟨B,1,none⟩=some (.int .i64 j)/\(convert 31 9 (.slice (cutA A c (k+2) 1) (j-(k+2)) (c-(k+2)))).run Tryz.prog w'=.ok (.string t) w')
       (first | go_keep | exact⟨k0,k1,hcd⟩ | exact⟨kk0,kk,hce⟩)
       (first
        | (go_at_call 145;((with_reducible refine (CC.out _).mono ?_);rintro e w3 ⟨A2,n2,c2,rfl,s3,x3⟩;have X3:=hid (X2.out.trans ((Ext.refl w2).drew.trans x3));have hc3:=HC.out.ext X3.out;have S3:=hid (s3.mono (fun _ _ h=>h) (fun b hb=>Nat.le_trans (Nat.le_trans HM.out.size X2.out.size) hb));have HC3:=hid hc3;have hce:=HCV.out _ hc3;have kk0:=hc3.c0;have kk:=hc3.c1;have kq:=hc3.fz;have kr:=hc3.lt;have M3:=hid (HM.out.ext X3.out);clear s3 x3 hc3)))
      go_wp2_with (first
       | (go_at_call 48;((with_reducible refine (CN.out _ HC3.out).mono ?_);rintro e w4 ⟨v,rfl,rfl,m4⟩;have M4:=hid (M3.out.trans H.out m4);have HC4:=hid (H.out.mv M4.out (by omega));clear m4 HC3 CN))
       | (go_at_call 48;((with_reducible refine (CN2.out _ HC4.out).mono ?_);rintro e w5 ⟨rfl,q,m5⟩;have M5:=hid (M4.out.trans H.out m5);clear m5)))
      exact⟨rfl,rfl,_,M5.out⟩
    ·have e1:needF L 58 j=.fail 2 j:=by unfold needF;rw[if_neg h58]
     rw[e1] at hV CN;simp only[PR.bind] at hV;subst hV;clear h58 e1
     go_wp2_with (first
      | (go_at_call 46;((with_reducible refine (C1.out _ (Ext.refl _)).mono ?_);rintro e w1 ⟨rfl,x1⟩;have X1:=hid x1;clear x1))
      | (go_at_call 144;((with_reducible refine (C2.out _).mono ?_);rintro e w2 ⟨rfl,x2⟩;have X2:=hid (X1.out.trans x2);have hc2:=HC.out.ext X2.out;have k0:=hc2.c0;have k1:=hc2.c1;have kz:=hc2.fz;have kl:=hc2.lt;have HC2:=hid hc2;clear x2 hc2)))
     have hcv:=HCV.out _ HC2.out;have hcd:=HCV.out _ (HC2.out.ext (Ext.refl w2).drew)
     go_region_held3 (fun w'=>w'.cell? ⟨B,0,none⟩=some (.slice A n c)/\w'.cell? ⟨B,1,none⟩=some (.int .i64 j)/\(convert 31 9 (.slice (cutA A c (k+2) 1) (j-(k+2)) (c-(k+2)))).run Tryz.prog w'=.ok (.string t) w')
      (first | go_keep | exact⟨k0,k1,hcd⟩ | exact⟨kk0,kk,hce⟩)
      (first
       | (go_at_call 145;((with_reducible refine (CC.out _).mono ?_);rintro e w3 ⟨A2,n2,c2,rfl,s3,x3⟩;have X3:=hid (X2.out.trans ((Ext.refl w2).drew.trans x3));have hc3:=HC.out.ext X3.out;have S3:=hid (s3.mono (fun _ _ h=>h) (fun b hb=>Nat.le_trans (Nat.le_trans HM.out.size X2.out.size) hb));have HC3:=hid hc3;have hce:=HCV.out _ hc3;have kk0:=hc3.c0;have kk:=hc3.c1;have kq:=hc3.fz;have kr:=hc3.lt;have M3:=hid (HM.out.ext X3.out);clear s3 x3 hc3)))
     go_wp2_with (first
      | (go_at_call 48;((with_reducible refine (CN.out _ HC3.out).mono ?_);rintro e w4 ⟨rfl,q,m4⟩;have M4:=hid (M3.out.trans H.out m4);clear m4)))
     exact⟨rfl,rfl,_,M4.out⟩
  ·have hjn:j<n:=by have:=scanF_lt plain_end hb;have:=HL.out;omega
   have HE2:=hid ((scanF_go plain_end hb).trans HT.out);rw[hb] at C2;have HA:=hid hC.at_;have HC:=hid hC;have wj:IntKind.i64.wrap ((j:Int)+1)=(j:Int)+1:=IntWalk.i64_in _ (by omega);generalize lookF L j=r at *;clear hb hC HT HV
   go_wp2_with (first
    | (go_at_call 46;((with_reducible refine (C1.out _ (Ext.refl _)).mono ?_);rintro e w1 ⟨rfl,x1⟩;have X1:=hid x1;clear x1))
    | (go_at_call 144;((with_reducible refine (C2.out _).mono ?_);rintro e w2 ⟨rfl,x2⟩;have X2:=hid (X1.out.trans x2);have hc2:=HC.out.ext X2.out;have k0:=hc2.c0;have k1:=hc2.c1;have kz:=hc2.fz;have kl:=hc2.lt;have HC2:=hid hc2;clear x2 hc2)))
   have HM2:=hid ((HM.out.ext X2.out).setX H.out (x:=(j:Int)+1) (i:=j+1) (by omega));have HC3:=hid (HC2.out.setX (x:=(j:Int)+1) (j:=j+1) (by omega) (by omega));go_roundw;case rel=>exact⟨j+1,by omega,by omega,HE2,HM2⟩
   case measure=>have e1:=HA.out;have e2:=HC3.out.at_;rw[e1];omega
end Go.Proofs.YthomjcjnalfipaaGreatDoor
