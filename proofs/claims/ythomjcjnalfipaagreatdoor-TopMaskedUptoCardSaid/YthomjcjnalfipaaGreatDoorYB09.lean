/- A part of the proofs of the Top laws. -/
import Derived.StillTailTactics
import Derived.Shelf.SlicesE.Compact
import Derived.Test.YthomjcjnalfipaaGreatDoorProg
import Derived.Test.YthomjcjnalfipaaGreatDoorRows
import Derived.ProofKit
import Derived.OpenShut
import Derived.ChangeOld
import Derived.Deep.Fields
import Derived.Test.YthomjcjnalfipaaGreatDoorYB08
set_option linter.all false
set_option maxRecDepth 100000
set_option maxHeartbeats 800000
open Go.Lib (hid)
namespace Go.Proofs.YthomjcjnalfipaaGreatDoor
open Go.RowKit Go.Sort
abbrev Up (l:List Int):Prop:=l.Pairwise (·< ·)
def insU (r:Int):List Int->List Int
 | []=>[r]
 | x::l=>if r<x then r::x::l else if r=x then x::l else x::insU r l
def upL (l:List Int):List Int:=l.foldr insU []
theorem mem_insU {r z:Int}:∀ {l:List Int},z∈insU r l↔z=r\/z∈l
 | []=>by simp[insU]
 | x::l=>by
  unfold insU;split
  ·simp
  ·split
   ·rename_i h;subst h;simp
   ·simp[mem_insU (l:=l)];constructor
    ·rintro (h | h | h)
     ·exact .inr (.inl h)
     ·exact .inl h
     ·exact .inr (.inr h)
    ·rintro (h | h | h)
     ·exact .inr (.inl h)
     ·exact .inl h
     ·exact .inr (.inr h)
theorem up_insU {r:Int}:∀ {l:List Int},Up l->Up (insU r l)
 | [],_=>by simp[insU]
 | x::l,h=>by
  have h:=List.pairwise_cons.1 h;unfold insU;split
  ·rename_i h1;refine List.Pairwise.cons (fun z hz=>?_) (List.Pairwise.cons h.1 h.2);rcases List.mem_cons.1 hz with rfl | hz
   ·exact h1
   ·have:=h.1 z hz;omega
  ·split
   ·exact List.Pairwise.cons h.1 h.2
   ·rename_i h1 h2;refine List.Pairwise.cons (fun z hz=>?_) (up_insU h.2);rcases mem_insU.1 hz with rfl | hz
    ·omega
    ·exact h.1 z hz
theorem mem_upL {z:Int}:∀ {l:List Int},z∈upL l↔z∈l
 | []=>by simp[upL]
 | x::l=>by
  show z∈insU x (upL l)↔_;rw[mem_insU,mem_upL (l:=l),List.mem_cons]
theorem up_upL:∀ (l:List Int),Up (upL l)
 | []=>List.Pairwise.nil
 | x::l=>up_insU (up_upL l)
theorem up_uniq:∀ {a b:List Int},Up a->Up b->(∀ z,z∈a↔z∈b)->a=b
 | [],[],_,_,_=>rfl
 | [],y::b,_,_,h=>by have:=(h y).2 (by simp);simp at this
 | x::a,[],_,_,h=>by have:=(h x).1 (by simp);simp at this
 | x::a,y::b,ha,hb,h=>by
  have ha:=List.pairwise_cons.1 ha;have hb:=List.pairwise_cons.1 hb
  have e:x=y:=by
   have h1:=(h x).1 (by simp);have h2:=(h y).2 (by simp);rcases List.mem_cons.1 h1 with e | h1
   ·exact e
   ·rcases List.mem_cons.1 h2 with e | h2
    ·exact e.symm
    ·have:=ha.1 y h2;have:=hb.1 x h1;omega
  subst e;congr 1;refine up_uniq ha.2 hb.2 fun z=>⟨fun hz=>?_,fun hz=>?_⟩
  ·rcases List.mem_cons.1 ((h z).1 (by simp[hz])) with e | hz2
   ·subst e;have:=ha.1 z hz;omega
   ·exact hz2
  ·rcases List.mem_cons.1 ((h z).2 (by simp[hz])) with e | hz2
   ·subst e;have:=hb.1 z hz;omega
   ·exact hz2
open Go.Lib in
theorem compact_up {D:List Int} (h:D.Pairwise (·<= ·)):compactUpTo D.toArray D.toArray.size=upL D:=by
 have hget:∀ j (hj:j<D.length),D.toArray[j]! =D[j]:=fun j hj=>by
  rw[getElem!_pos _ j (by simpa using hj)];simp
 have hle:∀ i j,i<=j->(hj:j<D.length)->D.toArray[i]! <=D.toArray[j]!:=fun i j hij hj=>by
  rw[hget i (by omega),hget j hj];rcases Nat.lt_or_ge i j with hlt | hge
  ·exact List.pairwise_iff_getElem.1 h i j (by omega) hj hlt
  ·have:i=j:=by omega
   subst this;exact Int.le_refl _
 refine up_uniq ?_ (up_upL D) fun z=>?_
 ·unfold compactUpTo;refine List.pairwise_map.2 ?_
  have hr:((List.range D.toArray.size).filter (keeps D.toArray)).Pairwise (fun a b=>a<b/\keeps D.toArray b=true/\b<D.length):=by
   have h1:(List.range D.toArray.size).Pairwise (·< ·):=List.pairwise_lt_range;have h2:=h1.filter (keeps D.toArray);refine h2.imp_of_mem ?_;intro a b ha hb hab;rw[List.mem_filter] at hb;exact⟨hab,hb.2,by simpa using hb.1⟩
  refine hr.imp ?_;rintro a b ⟨hab,hk,hb⟩
  have hne:D.toArray[b]! ≠D.toArray[b-1]!:=by
   intro e;unfold keeps at hk;have hb0:¬ b=0:=by omega
   rw[e] at hk;simp[hb0] at hk
  have h1:=hle a (b-1) (by omega) (by omega);have h2:=hle (b-1) b (by omega) hb;omega
 ·rw[mem_upL];unfold compactUpTo;rw[List.mem_map];constructor
  ·rintro⟨j,hj,rfl⟩;rw[List.mem_filter] at hj;have hjl:j<D.length:=by simpa using hj.1
   rw[hget j hjl];exact List.getElem_mem hjl
  ·intro hz;obtain⟨j,hj,rfl⟩:=List.getElem_of_mem hz
   induction j with
   | zero=>exact⟨0,by rw[List.mem_filter];exact⟨by simpa using hj,by simp[keeps]⟩,hget 0 hj⟩
   | succ j ih=>
    by_cases e:D.toArray[j+1]! =D.toArray[j]!
    ·obtain⟨i,hi,hi2⟩:=ih (by omega) (List.getElem_mem (by omega));exact⟨i,hi,by rw[hi2,<- hget j (by omega),<- e,hget (j+1) hj]⟩
    ·exact⟨j+1,by rw[List.mem_filter];exact⟨by simpa using hj,by unfold keeps;simp only[Nat.add_sub_cancel];simpa using e⟩,hget (j+1) hj⟩
open Go.Shelf in
def compR_ren:Go.Shelf.Ren:=⟨fun | 43=>135 | n=>n,fun | 22=>31 | 23=>21 | n=>n,fun | n=>n⟩
theorem compR:Go.Proofs.SlLaysE.n43 Tryz.prog compR_ren:={
 mixed:=by kernel_rfl
 f43:=⟨Tryz.f135.name,by decide,Tryz.func135.trans (congrArg some (by kernel_rfl))⟩
 t0:=Tryz.underlying0
 a0:=Tryz.isAgg0
 z0:=Tryz.sizeOf0
 v0:=Tryz.zeroValue0
 t3:=Tryz.underlying3
 a3:=Tryz.isAgg3
 z3:=Tryz.sizeOf3
 v3:=Tryz.zeroValue3
 t4:=Tryz.underlying4
 a4:=Tryz.isAgg4
 z4:=Tryz.sizeOf4
 v4:=Tryz.zeroValue4
 t22:=Tryz.underlying31
 a22:=Tryz.isAgg31
 z22:=Tryz.sizeOf31
 v22:=Tryz.zeroValue31
 a23:=Tryz.isAgg21
 z23:=Tryz.sizeOf21 }
theorem CompactR_any (b off N cap:Nat) (L0 D:List Int) (w0 w:World) (S:SE .i32 w0 b off L0 i32 D w) (hN:D.length=N) (hs:D.Pairwise (·<= ·)) (hm:N<1152921504606846976) (hc:N<=cap) :
  Calls Tryz.prog 135 #[.slice (some ⟨b,off,none⟩) N cap] w fun e w'=>e=.returned (.slice (some ⟨b,off,none⟩) (upL D).length cap)/\∃ z,SE .i32 w0 b off L0 i32 (upL D++List.replicate z 0) w':=by
 have hH:Holds (Value.int .i32) w b off D.toArray:=fun j hj=>by
  have hj':j<D.length:=by simpa using hj
  rw[toArray_get];exact⟨S.cell hj',S.frz hj'⟩
 have h:=AnyE.slices_Compact (P:=Tryz.prog) (ρ:=compR_ren) compR (Value.int .i32) (fun _=>rfl) (Go.Proofs.EqlAt.intD _ _ .i32) (Go.Proofs.NeqAt.intD _ _ .i32) 0 (fun w=>by exact Tryz.zeroValue21 w) b off cap D.toArray w hH (by simp;omega) (by simpa using by omega);rw[compact_up hs] at h;have e1:D.toArray.size=N:=by simpa using hN
 rw[e1] at h;refine Calls.mono h fun e w' ⟨h1,q,h2⟩=>⟨h1,N-(upL D).length,?_⟩
 have hle:(upL D).length<=N:=by
  rw[<- compact_up hs,<- hN];unfold Go.Lib.compactUpTo;rw[List.length_map];exact Nat.le_trans (List.length_filter_le _ _) (by simp)
 have hl:(upL D++List.replicate (N-(upL D).length) 0).length=D.length:=by simp;omega
 refine⟨S.base,S.blk,hl.trans S.len,fun x hx=>?_,?_⟩
 ·rcases List.mem_append.1 hx with hx | hx
  ·exact S.all x (mem_upL.1 hx)
  ·rw[(List.mem_replicate.1 hx).2];unfold i32;omega
 ·subst h2;rw[<- putRow_putRow (Value.int .i32) w0 b off D.toArray _ (by simpa using hl),putRow_ahead];refine Ext.trans (ext_mapBoth S.ext (by rw[size_put];exact S.blk) _) ?_;exact (Ext.refl _).drewN q
theorem drewN_more {w wr:World} {q:Nat} (h:wr=w.drewN q) (n:Nat):∃ q',wr.drewN n=w.drewN q':=by
 subst h;exact⟨q+n,by simp only[World.drewN];congr 1;omega⟩
theorem EqualI_any (A B:Option Addr) (n c n' d:Nat) (l m:List Int) (w:World) (hA:Ints w A n c l) (hB:Ints w B n' d m) :
  Calls Tryz.prog 136 #[.slice A n c,.slice B n' d] w fun e w'=>e=.returned (.bool (decide (l=m)))/\∃ q,w'=w.drewN q:=by
 have h1:=hid hA.len;have h2:=hid hB.len;have hmA:=hA.max;have hcA:=hA.cap;unfold maxLen at hmA;by_cases hlm:n=n'
 ·subst hlm;have hn:((n:Int) != (n:Int))=false:=by simp
  go_enter Tryz.func136,Tryz.ntmps136;go_wp2;go_loopw [13] (fun i wr=>∃ k:Nat,k<=n/\i=.int .i64 k/\l.take k=m.take k/\∃ q,wr=w.drewN q) (fun i _=>n-(intOf i).toNat);case atStart=>exact⟨0,by omega,rfl,rfl,0,rfl⟩
  case round=>
   obtain⟨k,hk,rfl,hkk,q,hq⟩:=hrel;have hx:Ext w wr:=by rw[hq];exact (Ext.refl w).drewN q
   have HQ:=hid hq;clear hq;have HK:=hid hkk;clear hkk;by_cases hlt:k<n
   ·obtain⟨x,hxx⟩:=hA.idx hlt;obtain⟨y,hyy⟩:=hB.idx hlt;obtain⟨b,off,rfl,_,hc,_⟩:=(hA.ext (keep_int _) hx).int hxx;obtain⟨b2,off2,rfl,_,hc2,_⟩:=(hB.ext (keep_int _) hx).int hyy;by_cases heq:x=y
    ·subst heq;have HX:=hid hxx;have HY:=hid hyy;clear hxx hyy;go_wp2;go_quiet (fail);go_wp2;go_roundw;case rel=>exact⟨k+1,by omega,by go_num,same_step HK.out HX.out HY.out,drewN_more HQ.out _⟩
     case measure=>simp[intOf];omega
    ·have hne:(x != y)=true:=by simpa using heq
     have hd:decide (l=m)=false:=by simp;rintro rfl;rw[hxx] at hyy;cases hyy;exact heq rfl
     have HD:=hid hd;clear hd heq hxx hyy;go_wp2;go_quiet (fail);go_wp2;go_ret;rw[HD.out];exact⟨rfl,drewN_more HQ.out _⟩
   ·have hd:decide (l=m)=true:=by
     have h3:=HK.out;rw[take_all h1.out (by omega),take_all h2.out (by omega)] at h3;simpa using h3
    have HD:=hid hd;clear hd;go_wp2;go_ret;rw[HD.out];exact⟨rfl,q,HQ.out⟩
 ·have hn:((n:Int) != (n':Int))=true:=by simp;omega
  have hd:decide (l=m)=false:=by simp;rintro rfl;exact hlm (h1.out.symm.trans h2.out)
  have H:=hid hd;clear hd;go_enter Tryz.func136,Tryz.ntmps136;go_wp2;go_ret;rw[H.out];exact⟨rfl,0,rfl⟩
end Go.Proofs.YthomjcjnalfipaaGreatDoor
namespace Go.Proofs.YthomjcjnalfipaaGreatDoor
open Go.RowKit
theorem ValidRune_any (r:Int) (w:World):Calls Tryz.prog 91 #[.int .i32 r] w fun e w'=>e=.returned (.bool (right r))/\w=w':=by
 by_cases h1:0<=r
 ·by_cases h2:r<55296
  ·have e:right r=true:=by simp[right];omega
   have H:=hid e;clear e;go_enter Tryz.func91,Tryz.ntmps91;go_wp2;go_ret;rw[H.out];exact⟨rfl,rfl⟩
  ·by_cases h3:57343<r
   ·by_cases h4:r<=1114111
    ·have e:right r=true:=by simp[right];omega
     have H:=hid e;clear e;go_enter Tryz.func91,Tryz.ntmps91;go_wp2;go_ret;rw[H.out];exact⟨rfl,rfl⟩
    ·have e:right r=false:=by simp[right];omega
     have H:=hid e;clear e;go_enter Tryz.func91,Tryz.ntmps91;go_wp2;go_ret;rw[H.out];exact⟨rfl,rfl⟩
   ·have e:right r=false:=by simp[right];omega
    have H:=hid e;clear e;go_enter Tryz.func91,Tryz.ntmps91;go_wp2;go_ret;rw[H.out];exact⟨rfl,rfl⟩
 ·have e:right r=false:=by simp[right];omega
  have H:=hid e;clear e;go_enter Tryz.func91,Tryz.ntmps91;go_wp2;go_ret;rw[H.out];exact⟨rfl,rfl⟩
theorem Right_any (r:Int) (w:World):Calls Tryz.prog 55 #[.int .i32 r] w fun e w'=>e=.returned (.bool (right r))/\w=w':=by
 go_enter Tryz.func55,Tryz.ntmps55;go_wp2_with (go_at_call 91;refine (ValidRune_any _ _).mono ?_;rintro e w' ⟨rfl,rfl⟩);go_ret;exact⟨rfl,rfl⟩
theorem notRight_any (r:Int) (w:World):Calls Tryz.prog 94 #[.int .i32 r] w fun e w'=>e=.returned (.bool (!right r))/\w=w':=by
 go_enter Tryz.func94,Tryz.ntmps94;go_wp2_with (go_at_call 55;refine (Right_any _ _).mono ?_;rintro e w' ⟨rfl,rfl⟩);go_ret;exact⟨rfl,rfl⟩
theorem notRight2_any (r:Int) (w:World):Calls Tryz.prog 54 #[.int .i32 r] w fun e w'=>e=.returned (.bool (!right r))/\w=w':=by
 go_enter Tryz.func54,Tryz.ntmps54;go_wp2_with (go_at_call 55;refine (Right_any _ _).mono ?_;rintro e w' ⟨rfl,rfl⟩);go_ret;exact⟨rfl,rfl⟩
def PredRune (g:FuncId) (caps:Array Value) (p:Int->Bool) (w:World):Prop:=
 ∀ W x,Ext w W->Calls Tryz.prog g (#[.int .i32 x]++caps) W fun e w'=>e=.returned (.bool (p x))/\Ext W w'
theorem IndexRune_any (A:Option Addr) (n c:Nat) (l:List Int) (w:World) (g:FuncId) (caps:Array Value) (p:Int->Bool)
  (eg:∀ args w,(callFunc g args).run Tryz.prog w=.ok (.enter g args) w) (hp:PredRune g caps p w) (h:Runes w A n c l) :
  Calls Tryz.prog 90 #[.slice A n c,.func (.func g) #[] caps] w fun e w'=>e=.returned (.int .i64 (idxFrom p 0 l))/\Ext w w':=by
 have hm:=h.max;unfold maxLen at hm;have hcap:=h.cap;have hlen:=hid h.len;have HP:=hid hp;clear hp;go_enter Tryz.func90,Tryz.ntmps90;go_wp2;go_loopw [8] (fun i wr=>∃ k:Nat,k<=n/\i=.int .i64 k/\idxFrom p 0 l=idxFrom p k (l.drop k)/\Ext w wr) (fun i _=>n-(intOf i).toNat);case atStart=>exact⟨0,by omega,rfl,rfl,Ext.refl _⟩
 case round=>
  obtain⟨k,hk,rfl,hkk,hx⟩:=hrel;have HK:=hid hkk;clear hkk;by_cases hlt:k<n
  ·obtain⟨x,hxx⟩:=h.idx hlt;obtain⟨b,off,rfl,_,hc,_⟩:=(h.ext hx).rune hxx;have HD:=hid (drop_cons hxx);clear hxx;have hcon:=HP.out wr x hx;have HC:=hid hcon;clear hcon;by_cases hr:p x=true
   ·go_wp2_with fail;refine HC.out.mono ?_;rintro e w1 ⟨rfl,hx1⟩;rw[hr];go_wp2;go_ret;rw[HK.out,HD.out];exact⟨by simp[idxFrom,hr],hx.trans hx1⟩
   ·have hr':p x=false:=by simpa using hr
    go_wp2_with fail;refine HC.out.mono ?_;rintro e w1 ⟨rfl,hx1⟩;rw[hr'];go_wp2;go_roundw;case rel=>exact⟨k+1,by omega,by go_num,by rw[HK.out,HD.out];simp[idxFrom,hr'],hx.trans hx1⟩
    case measure=>simp[intOf];omega
  ·go_wp2;go_ret;rw[HK.out,drop_end hlen.out hlt];exact⟨rfl,hx⟩
theorem ContainsRune_any (A:Option Addr) (n c:Nat) (l:List Int) (w:World) (g:FuncId) (caps:Array Value) (p:Int->Bool)
  (eg:∀ args w,(callFunc g args).run Tryz.prog w=.ok (.enter g args) w) (hp:PredRune g caps p w) (h:Runes w A n c l) :
  Calls Tryz.prog 53 #[.slice A n c,.func (.func g) #[] caps] w fun e w'=>e=.returned (.bool (l.any p))/\Ext w w':=by
 have HC:=hid (IndexRune_any A n c l w g caps p eg hp h);have hm:=h.max;unfold maxLen at hm;have hb:=idxFrom_le p 0 l;have hg:=hid (idxFrom_geq p 0 l);clear eg hp h;generalize idxFrom p 0 l=z at *;go_enter Tryz.func53,Tryz.ntmps53;go_wp2_with (go_at_call 90;refine HC.out.mono ?_;rintro e w' ⟨rfl,hx⟩);go_ret;rw[<- hg.out];exact⟨rfl,hx⟩
def PredInt (g:FuncId) (caps:Array Value) (p:Nat->Bool) (n:Nat) (w:World):Prop:=
 ∀ W (i:Nat),Ext w W->i<n->Calls Tryz.prog g (#[.int .i64 i]++caps) W fun e w'=>e=.returned (.bool (p i))/\Ext W w'
theorem Search_any (n:Nat) (g:FuncId) (caps:Array Value) (p:Nat->Bool) (w:World) (hn:n<=4611686018427387904)
  (eg:∀ args w,(callFunc g args).run Tryz.prog w=.ok (.enter g args) w) (hp:PredInt g caps p n w) :
  Calls Tryz.prog 30 #[.int .i64 n,.func (.func g) #[] caps] w fun e w'=>(∃ i:Nat,e=.returned (.int .i64 i)/\Found p n i)/\Ext w w':=by
 have HP:=hid hp;clear hp;go_enter Tryz.func30,Tryz.ntmps30;go_wp2;go_loopw [5,6] (fun u v wr=>∃ i j:Nat,i<=j/\j<=n/\u=.int .i64 i/\v=.int .i64 j/\Hid ((0<i->p (i-1)=false)/\(j<n->p j=true))/\Ext w wr) (fun u v _=>(intOf v).toNat-(intOf u).toNat);case atStart=>exact⟨0,n,by omega,by omega,rfl,rfl,⟨fun h=>absurd h (by omega),fun h=>absurd h (by omega)⟩,Ext.refl _⟩
 case round=>
  obtain⟨i,j,hij,hjn,rfl,rfl,hpp,hx⟩:=hrel;by_cases hlt:i<j
  ·obtain⟨m,hm⟩:∃ m:Nat,m=(i+j) / 2:=⟨_,rfl⟩
   have e:((i:Int)+(j:Int)) / 2=(m:Int):=by omega
   have hm1:i<=m:=by omega
   have hm2:m<j:=by omega
   have HE:=hid e;clear e hm;have hcon:=HP.out wr m hx (by omega);have HC:=hid hcon;clear hcon;by_cases hr:p m=true
   ·go_wp2;rw[HE.out];refine HC.out.mono ?_;rintro e w1 ⟨rfl,hx1⟩;rw[hr];go_wp2;go_roundw;case rel=>exact⟨i,m,by omega,by omega,rfl,rfl,⟨hpp.out.1,fun _=>hr⟩,hx.trans hx1⟩
    case measure=>simp[intOf];omega
   ·have hr':p m=false:=by simpa using hr
    go_wp2;rw[HE.out];refine HC.out.mono ?_;rintro e w1 ⟨rfl,hx1⟩;rw[hr'];go_wp2;go_roundw;case rel=>exact⟨m+1,j,by omega,by omega,by go_num,rfl,⟨fun _=>by simpa using hr',hpp.out.2⟩,hx.trans hx1⟩
    case measure=>simp[intOf];omega
  ·go_wp2;go_ret;have e:i=j:=by omega
   subst e;exact⟨⟨i,rfl,hjn,hpp.out.1,hpp.out.2⟩,hx⟩
theorem hasAt_any (B:Nat) (A:Option Addr) (n c:Nat) (l:List Sp) (r:Int) (i:Nat) (w:World) (h:Spans w A n c l) (hi:i<n)
  (h0:w.cell? ⟨B,0,none⟩=some (.slice A n c)) (h1:w.cell? ⟨B+1,0,none⟩=some (.int .i32 r)) :
  Calls Tryz.prog 31 #[.int .i64 i,.pointer (some ⟨B,0,none⟩),.pointer (some ⟨B+1,0,none⟩)] w
   fun e w'=>e=.returned (.bool (decide (r<=(l.getD i default).hi)))/\Ext w w':=by
 obtain⟨x,hxx⟩:=h.idx hi;have hm:=h.max;unfold maxLen at hm;have hcap:=h.cap;obtain⟨b,off,rfl,⟨_,hne⟩,hc1,hc2,_⟩:=h.span hxx;have e:l.getD i default=x:=by simp[List.getD,hxx]
 have HE:=hid e;clear e hxx;have hi':(i:Int)<(n:Int):=by omega
 go_enter Tryz.func31,Tryz.ntmps31;go_wp2;go_quiet (fail);go_wp2;go_ret;rw[HE.out];exact⟨rfl,(Ext.refl _).drewN _⟩
theorem setsHas_any (A:Option Addr) (n c:Nat) (l:List Sp) (r:Int) (w:World) (h:Spans w A n c l) (hg:wrongSet l=0) :
  Calls Tryz.prog 14 #[.slice A n c,.int .i32 r] w fun e w'=>e=.returned (.bool (has l r))/\Ext w w':=by
 have G:=good_of hg;have hn:n<=200:=by rw[<- h.len];exact G.len
 have hm:=h.max;unfold maxLen at hm;have hcap:=h.cap;have hmf:∀ (fn:Fn) (first cap:Array Value) (w:World),(Instr.makeFunc fn first cap).run Tryz.prog w=.ok (.func fn first cap) w:=fun _ _ _ _=>rfl;have eg:∀ args w,(callFunc 31 args).run Tryz.prog w=.ok (.enter 31 args) w:=enters Tryz.func31 (by kernel_rfl) rfl;have ex:Ext w ((w.alloc (.cells #[.slice A n c] 23)).alloc (.cells #[.int .i32 r] 21)):=((Ext.refl _).alloc _).alloc _
 have hp:PredInt 31 #[.pointer (some ⟨w.heap.size,0,none⟩),.pointer (some ⟨w.heap.size+1,0,none⟩)] (fun j=>decide (r<=(l.getD j default).hi)) n ((w.alloc (.cells #[.slice A n c] 23)).alloc (.cells #[.int .i32 r] 21)):=by
  intro W i hW hi;exact hasAt_any w.heap.size A n c l r i W (h.ext (ex.trans hW)) hi (hW.cell (by simp)) (hW.cell (by simp))
 have HC:=hid (Search_any n _ _ _ _ (by omega) eg hp);clear hp;go_enter Tryz.func14,Tryz.ntmps14;go_wp2_with (go_at_call 30;refine HC.out.mono ?_;rintro e w1 ⟨⟨i,rfl,hf⟩,hx⟩);have hfd:=hf;rw[<- h.len] at hfd;have HR:=hid (has_found G hfd);clear hfd;have hx0:=ex.trans hx;have hin:=hf.1;have HF:=hid hf;clear hf;have hc0:w1.cell? ⟨w.heap.size,0,none⟩=some (.slice A n c):=hx.cell (by simp);have hc1:w1.cell? ⟨w.heap.size+1,0,none⟩=some (.int .i32 r):=hx.cell (by simp);by_cases hi:i<n
 ·obtain⟨x,hxx⟩:=h.idx hi;obtain⟨b,off,rfl,⟨_,hne⟩,hcl,_,_⟩:=(h.ext hx0).span hxx;have HX:=hid hxx;clear hxx;have hi':(i:Int)<(n:Int):=by omega
  go_wp2;go_quiet (fail);go_wp2;go_ret;rw[HR.out,getD_of HX.out,h.len];exact⟨by simp[hi],hx0.drewN _⟩
 ·have hi':decide ((i:Int)<(n:Int))=false:=by simp;omega
  go_wp2;go_quiet (fail);go_wp2;go_ret;rw[HR.out,h.len];exact⟨by simp[hi],hx0.drewN _⟩
structure RuleAt (w:World) (b off:Nat) (s f:Bool) (A1:Option Addr) (n1 c1:Nat) (A2:Option Addr) (n2 c2:Nat) (A3:Option Addr) (n3 c3:Nat) (A4:Option Addr) (n4 c4:Nat) (q:Int):Prop where
 h0:w.cell? ⟨b,off,none⟩=some (.bool s)
 h1:w.cell? ⟨b,off+1,none⟩=some (.bool f)
 h2:w.cell? ⟨b,off+2,none⟩=some (.slice A1 n1 c1)
 h3:w.cell? ⟨b,off+3,none⟩=some (.slice A2 n2 c2)
 h4:w.cell? ⟨b,off+4,none⟩=some (.slice A3 n3 c3)
 h5:w.cell? ⟨b,off+5,none⟩=some (.slice A4 n4 c4)
 h6:w.cell? ⟨b,off+6,none⟩=some (.int .i64 q)
section
variable {w w' : World} {b off : Nat} {s f : Bool} {A1 : Option Addr} {n1 c1 : Nat} {A2 : Option Addr} {n2 c2 : Nat} {A3 : Option Addr} {n3 c3 : Nat} {A4 : Option Addr} {n4 c4 : Nat} {q : Int} {r : Rule}
theorem RuleAt.ext (h:RuleAt w b off s f A1 n1 c1 A2 n2 c2 A3 n3 c3 A4 n4 c4 q) (e:Ext w w'):RuleAt w' b off s f A1 n1 c1 A2 n2 c2 A3 n3 c3 A4 n4 c4 q:=
 ⟨e.cell h.h0,e.cell h.h1,e.cell h.h2,e.cell h.h3,e.cell h.h4,e.cell h.h5,e.cell h.h6⟩
structure OkRule (r:Rule):Prop where
 b:okSets r.before
 s:okSets r.source
 a:okSets r.after
 lb:r.before.length<=20
 ls:r.source.length<=20
 la:r.after.length<=20
 s0:0<r.source.length
 lt:r.target.length<=20
 tr:r.target.all right=true
 c0:0<=r.cursor
 c1:r.cursor<=r.target.length
end
theorem wrongSets_zero:∀ {l:List (List Sp)},wrongSets l=0->okSets l
 | [],_=>fun s hs=>by simp at hs
 | s::r,h=>by
  unfold wrongSets at h;by_cases hs:wrongSet s=0
  ·rw[if_neg (by simp[hs])] at h;intro x hx;rcases List.mem_cons.1 hx with rfl | hx
   ·exact hs
   ·exact wrongSets_zero h x hx
  ·rw[if_pos hs] at h;exact absurd h hs
theorem wrongSide_zero {l:List (List Sp)} (h:wrongSide l=0):l.length<=20/\okSets l:=by
 unfold wrongSide at h;by_cases hb:20<l.length
 ·rw[if_pos hb] at h;simp at h
 ·rw[if_neg hb] at h;exact⟨by omega,wrongSets_zero h⟩
theorem wrongSides_zero:∀ {l:List (List (List Sp))},wrongSides l=0->∀ s∈l,wrongSide s=0
 | [],_=>fun s hs=>by simp at hs
 | s::r,h=>by
  unfold wrongSides at h;by_cases hs:wrongSide s=0
  ·rw[if_neg (by simp[hs])] at h;intro x hx;rcases List.mem_cons.1 hx with rfl | hx
   ·exact hs
   ·exact wrongSides_zero h x hx
  ·rw[if_pos hs] at h;exact absurd h hs
theorem ok_of {r:Rule} (h:wrongRule r=0):OkRule r:=by
 have hs:wrongSides [r.before,r.source,r.after]=0:=by
  by_cases hs:wrongSides [r.before,r.source,r.after]=0
  ·exact hs
  ·rw[wrongRule_sides hs] at h;exact h
 have hz:=wrongSides_zero hs;obtain⟨h1,h2⟩:=wrongSide_zero (hz r.before (by simp));obtain⟨h3,h4⟩:=wrongSide_zero (hz r.source (by simp));obtain⟨h5,h6⟩:=wrongSide_zero (hz r.after (by simp));rw[wrongRule_rest hs] at h;unfold wrongRest at h;by_cases c1:r.source.length=0
 ·rw[if_pos c1] at h;simp at h
 rw[if_neg c1] at h;by_cases c2:20<r.target.length
 ·rw[if_pos c2] at h;simp at h
 rw[if_neg c2] at h;cases c3:r.target.all right
 ·rw[c3] at h;simp at h
 rw[c3] at h;simp only[Bool.not_true,Bool.false_eq_true,if_false] at h;by_cases c4:r.cursor<0\/(r.target.length:Int)<r.cursor
 ·rw[if_pos c4] at h;simp at h
 exact⟨h2,h4,h6,h1,h3,h5,by omega,by omega,c3,by omega,by omega⟩
theorem text_of {t:List Int} (h:wrongText t=0):t.length<=4000/\t.all right=true:=by
 unfold wrongText at h;by_cases c1:4000<t.length
 ·rw[if_pos c1] at h;simp at h
 rw[if_neg c1] at h;cases c2:t.all right
 ·rw[c2] at h;simp at h
 ·exact⟨by omega,rfl⟩
def putAt (r:Rule) (t:List Int) (a:Nat):List Int:=t.take a++r.target++t.drop (a+r.source.length)
end Go.Proofs.YthomjcjnalfipaaGreatDoor
namespace Go.Proofs.YthomjcjnalfipaaGreatDoor
def wrongAt:Nat->List Rule->Int×Nat
 | _,[]=>(0,0)
 | k,r::l=>if wrongRule r≠0 then (wrongRule r,k) else wrongAt (k+1) l
def wrongRules (l:List Rule):Int×Nat:=if 200<l.length then (5,0) else wrongAt 0 l
theorem wrongAt_bad {k:Nat} {r:Rule} {l:List Rule} (h:wrongRule r≠0):wrongAt k (r::l)=(wrongRule r,k):=by unfold wrongAt;rw[if_pos h]
theorem wrongAt_ok {k:Nat} {r:Rule} {l:List Rule} (h:wrongRule r=0):wrongAt k (r::l)=wrongAt (k+1) l:=by rw[wrongAt,if_neg (by simp[h])]
theorem wrongAt_zero:∀ {k:Nat} {l:List Rule},(wrongAt k l).1=0->wrongAt k l=(0,0)/\∀ r∈l,wrongRule r=0
 | _,[],_=>⟨rfl,fun r hr=>by simp at hr⟩
 | k,r::l,h=>by
  by_cases hr:wrongRule r=0
  ·rw[wrongAt_ok hr] at h ⊢;obtain⟨h1,h2⟩:=wrongAt_zero h;exact⟨h1,fun x hx=>(List.mem_cons.1 hx).elim (fun e=>e▸hr) (h2 x)⟩
  ·rw[wrongAt_bad hr] at h;exact absurd h hr
theorem wrongRules_zero {l:List Rule} (h:(wrongRules l).1=0):wrongRules l=(0,0)/\l.length<=200/\∀ r∈l,OkRule r:=by
 unfold wrongRules at h ⊢;by_cases hb:200<l.length
 ·rw[if_pos hb] at h;simp at h
 ·rw[if_neg hb] at h ⊢;obtain⟨h1,h2⟩:=wrongAt_zero h;exact⟨h1,by omega,fun r hr=>ok_of (h2 r hr)⟩
theorem wrongRules_big {l:List Rule} (h:200<l.length):wrongRules l=(5,0):=by unfold wrongRules;rw[if_pos h]
theorem wrongRules_small {l:List Rule} (h:¬ 200<l.length):wrongRules l=wrongAt 0 l:=by unfold wrongRules;rw[if_neg h]
def first (l:List Rule) (t:List Int) (a:Int):Int:=idxFrom (fun r=>here r t a) 0 l
def checkRun (l:List Rule) (t:List Int):Int×Nat:=if (wrongRules l).1≠0 then wrongRules l else (wrongText t,0)
theorem checkRun_rules {l:List Rule} {t:List Int} (h:(wrongRules l).1≠0):checkRun l t=wrongRules l:=by unfold checkRun;rw[if_pos h]
theorem checkRun_text {l:List Rule} {t:List Int} (h:(wrongRules l).1=0):checkRun l t=(wrongText t,0):=by unfold checkRun;rw[if_neg (by simp[h])]
structure Play where
 text:List Int
 at_:Nat
 steps:Nat
 put:Nat
structure Out where
 text:List Int
 steps:Nat
 put:Nat
 err:Int
def playStep (l:List Rule) (p:Play):Option Play:=
 let k:=first l p.text p.at_
 if k<0 then some ⟨p.text,p.at_+1,p.steps+1,p.put⟩
 else
  let r:=l.getD k.toNat default
  if 4000<(p.text.length:Int)-r.source.length+r.target.length then none
  else some ⟨putAt r p.text p.at_,p.at_+r.cursor.toNat,p.steps+1,p.put+1⟩
def play (l:List Rule):Nat->Play->Out
 | n,p=>if p.at_<p.text.length then
   match n with
   | 0=>⟨[],0,0,9⟩
   | n+1=>match playStep l p with
    | none=>⟨[],0,0,4⟩
    | some q=>play l n q
  else ⟨p.text,p.steps,p.put,0⟩
theorem play_end {l:List Rule} {n:Nat} {p:Play} (h:¬ p.at_<p.text.length):play l n p=⟨p.text,p.steps,p.put,0⟩:=by
 unfold play;rw[if_neg h]
theorem play_out {l:List Rule} {p:Play} (h:p.at_<p.text.length):play l 0 p=⟨[],0,0,9⟩:=by
 unfold play;rw[if_pos h]
theorem play_none {l:List Rule} {n:Nat} {p:Play} (h:p.at_<p.text.length) (hs:playStep l p=none):play l (n+1) p=⟨[],0,0,4⟩:=by
 rw[play,if_pos h];simp only[hs]
theorem play_next {l:List Rule} {n:Nat} {p q:Play} (h:p.at_<p.text.length) (hs:playStep l p=some q):play l (n+1) p=play l n q:=by
 rw[play,if_pos h];simp only[hs]
def runText (l:List Rule) (t:List Int):Out:=play l (8*t.length+40) ⟨t,0,0,0⟩
theorem playStep_no {l:List Rule} {t:List Int} {a s p:Nat} (h:first l t a<0):playStep l ⟨t,a,s,p⟩=some ⟨t,a+1,s+1,p⟩:=by
 unfold playStep;simp only[];rw[if_pos h]
theorem playStep_much {l:List Rule} {t:List Int} {a s p i:Nat} {r:Rule} (h:first l t a=i) (hr:l[i]? =some r) (hb:4000<(t.length:Int)-r.source.length+r.target.length):playStep l ⟨t,a,s,p⟩=none:=by
 unfold playStep;simp only[h,Int.toNat_natCast,List.getD,hr,Option.getD_some];rw[if_neg (by omega),if_pos hb]
theorem playStep_put {l:List Rule} {t:List Int} {a s p i:Nat} {r:Rule} (h:first l t a=i) (hr:l[i]? =some r) (hb:¬ 4000<(t.length:Int)-r.source.length+r.target.length) :
  playStep l ⟨t,a,s,p⟩=some ⟨putAt r t a,a+r.cursor.toNat,s+1,p+1⟩:=by
 unfold playStep;simp only[h,Int.toNat_natCast,List.getD,hr,Option.getD_some];rw[if_neg (by omega),if_neg hb]
end Go.Proofs.YthomjcjnalfipaaGreatDoor
namespace Go.Proofs.YthomjcjnalfipaaGreatDoor
structure Hd where
 lo:Int
 hi:Int
 rules:List Int
def rulesAt:Nat->List Rule->Int->List Int
 | _,[],_=>[]
 | k,r::l,x=>if has (r.source.headD []) x then (k:Int)::rulesAt (k+1) l x else rulesAt (k+1) l x
def spEdges (s:List Sp):List Int:=s.flatMap fun x=>[x.lo,x.hi+1]
def firstEdges (l:List Rule):List Int:=l.flatMap fun r=>spEdges (r.source.headD [])
def edgesF (l:List Rule):List Int:=upL (0::firstEdges l)
def addH:List Hd->Hd->List Hd
 | [],h=>[h]
 | [p],h=>if p.rules=h.rules then [{ p with hi:=h.hi }] else [p,h]
 | p::q::t,h=>p::addH (q::t) h
def nextHi:List Int->Int
 | []=>1114111
 | e::_=>e-1
def headsGo (l:List Rule):List Int->List Hd->List Hd
 | [],out=>out
 | e::es,out=>if e > 1114111 then out else headsGo l es (addH out ⟨e,nextHi es,rulesAt 0 l e⟩)
def headsF (l:List Rule):List Hd:=headsGo l (edgesF l) []
theorem addH_last:∀ {o:List Hd} {p h:Hd},addH (o++[p]) h=if p.rules=h.rules then o++[{ p with hi:=h.hi }] else o++[p,h]
 | [],p,h=>by simp[addH]
 | [a],p,h=>by simp only[List.cons_append,List.nil_append,addH];split <;> rfl
 | a::b::o,p,h=>by
  show a::addH (b::(o++[p])) h=_;rw[show b::(o++[p])=(b::o)++[p] from rfl,addH_last (o:=b::o)];split <;> rfl
def Tile (P:Int->List Int):Int->List Hd->Int->Prop
 | a,[],b=>a=b
 | a,h::t,b=>h.lo=a/\a<=h.hi/\(∀ x,a<=x->x<=h.hi->P x=h.rules)/\Tile P (h.hi+1) t b
theorem Tile.add {P:Int->List Int}:∀ {out:List Hd} {a b:Int} {h:Hd},Tile P a out b->h.lo=b->b<=h.hi->(∀ x,b<=x->x<=h.hi->P x=h.rules)->Tile P a (addH out h) (h.hi+1)
 | [],a,b,h,ht,h1,h2,h3=>by
  have:a=b:=ht;subst this;exact⟨h1,h2,h3,rfl⟩
 | [p],a,b,h,ht,h1,h2,h3=>by
  obtain⟨p1,p2,p3,p4⟩:=ht;have:p.hi+1=b:=p4;unfold addH;split
  ·rename_i hr;refine⟨p1,by show a<=h.hi;omega,fun x hx1 hx2=>?_,rfl⟩;by_cases hx:x<=p.hi
   ·exact p3 x hx1 hx
   ·exact (h3 x (by omega) hx2).trans hr.symm
  ·exact⟨p1,p2,p3,by omega,by omega,fun x hx1 hx2=>h3 x (by omega) hx2,rfl⟩
 | p::q::t,a,b,h,ht,h1,h2,h3=>by
  obtain⟨p1,p2,p3,p4⟩:=ht;exact⟨p1,p2,p3,Tile.add p4 h1 h2 h3⟩
theorem has_flat {s:List Sp} {e x:Int} (h:e<=x) (hs:∀ z∈spEdges s,z<=e\/x<z):has s x=has s e:=by
 induction s with
 | nil=>rfl
 | cons y s ih=>
  have h1:=hs y.lo (by simp[spEdges]);have h2:=hs (y.hi+1) (by simp[spEdges]);have ih:=ih fun z hz=>hs z (by simp only[spEdges,List.flatMap_cons,List.mem_append] at hz ⊢;exact .inr hz);show (inSp y x||has s x)=(inSp y e||has s e);rw[ih];congr 1;unfold inSp;rw[Bool.eq_iff_iff];simp only[Bool.and_eq_true,decide_eq_true_eq];constructor <;> rintro⟨_,_⟩ <;> constructor <;> omega
theorem rulesAt_flat {e x:Int} (h:e<=x):∀ {l:List Rule} {k:Nat},(∀ z∈firstEdges l,z<=e\/x<z)->rulesAt k l x=rulesAt k l e
 | [],_,_=>rfl
 | r::l,k,hs=>by
  have h1:has (r.source.headD []) x=has (r.source.headD []) e:=has_flat h fun z hz=>hs z (by simp only[firstEdges,List.flatMap_cons,List.mem_append];exact .inl hz);have h2:=rulesAt_flat h (l:=l) (k:=k+1) fun z hz=>hs z (by simp only[firstEdges,List.flatMap_cons,List.mem_append];exact .inr hz);unfold rulesAt;rw[h1,h2]
theorem headsGo_tile {l:List Rule} {P:Int->List Int} (hP:P=rulesAt 0 l):∀ {es:List Int} {out:List Hd} {b:Int},Tile P 0 out b->Up es ->
  (∀ e∈es,b<=e)->(es.head? =some b\/(es=[]/\1114112<=b))->(∀ z∈firstEdges l,z<b\/z∈es)->∃ b',1114112<=b'/\Tile P 0 (headsGo l es out) b'
 | [],out,b,ht,_,_,hh,_=>by
  rcases hh with hh | ⟨_,hh⟩
  ·simp at hh
  ·exact⟨b,hh,ht⟩
 | e::es,out,b,ht,hu,hb,hh,hz=>by
  have he:e=b:=by
   rcases hh with hh | ⟨hh,_⟩
   ·simpa using hh
   ·simp at hh
  subst he;have hu:=List.pairwise_cons.1 hu;unfold headsGo;split
  ·exact⟨e,by omega,ht⟩
  ·rename_i hle
   have hn:e<=nextHi es:=by
    cases es with
    | nil=>show e<=1114111;omega
    | cons f fs=>have:=hu.1 f (by simp);show e<=f-1;omega
   have hmin:∀ z∈es,nextHi es+1<=z:=by
    cases es with
    | nil=>simp
    | cons f fs=>
     intro z hz;have hu2:=List.pairwise_cons.1 hu.2;show f-1+1<=z;rcases List.mem_cons.1 hz with rfl | hz
     ·omega
     ·have:=hu2.1 z hz;omega
   refine headsGo_tile hP (b:=nextHi es+1) (Tile.add (h:=⟨e,nextHi es,rulesAt 0 l e⟩) ht rfl hn fun x hx1 hx2=>?_) hu.2 hmin ?_ ?_
   ·rw[hP];refine rulesAt_flat hx1 fun z hz1=>?_;rcases hz z hz1 with h | h
    ·left;omega
    ·rcases List.mem_cons.1 h with rfl | h
     ·left;omega
     ·right;have:=hmin z h;have:x<=nextHi es:=hx2;omega
   ·cases es with
    | nil=>right;exact⟨rfl,by show (1114112:Int)<=1114111+1;omega⟩
    | cons f fs=>left;show some f=some (f-1+1);congr 1;omega
   ·intro z hz1;rcases hz z hz1 with h | h
    ·left;omega
    ·rcases List.mem_cons.1 h with rfl | h
     ·left;omega
     ·exact .inr h
theorem headsF_tile {l:List Rule} (h:∀ z∈firstEdges l,0<=z):∃ b,1114112<=b/\Tile (rulesAt 0 l) 0 (headsF l) b:=by
 have hm:∀ z,z∈edgesF l↔z=0\/z∈firstEdges l:=fun z=>by unfold edgesF;rw[mem_upL,List.mem_cons]
 have hu:Up (edgesF l):=up_upL _;refine headsGo_tile rfl (b:=0) rfl hu (fun e he=>?_) (.inl ?_) fun z hz=>.inr ((hm z).2 (.inr hz))
 ·rcases (hm e).1 he with rfl | he
  ·omega
  ·exact h e he
 ·have h0:=(hm 0).2 (.inl rfl)
  cases hE:edgesF l with
  | nil=>rw[hE] at h0;simp at h0
  | cons e es=>
   rw[hE] at h0 hu;have hu:=List.pairwise_cons.1 hu
   have he:0<=e:=by
    rcases (hm e).1 (by rw[hE];simp) with h1 | h1
    ·omega
    ·exact h e h1
   rcases List.mem_cons.1 h0 with h1 | h1
   ·show some e=some 0;rw[h1]
   ·have:=hu.1 0 h1;omega
theorem Tile.at {P:Int->List Int}:∀ {out:List Hd} {a b r:Int},Tile P a out b->a<=r->r<b->∃ (i:Nat) (h:Hd),out[i]? =some h/\r<=h.hi/\h.lo<=r/\h.rules=P r/\∀ (j:Nat) (g:Hd),j<i->out[j]? =some g->g.hi<r
 | [],a,b,r,ht,h1,h2=>by have:a=b:=ht;omega
 | h::t,a,b,r,ht,h1,h2=>by
  obtain⟨p1,p2,p3,p4⟩:=ht;by_cases hr:r<=h.hi
  ·exact⟨0,h,rfl,hr,by omega,(p3 r h1 hr).symm,fun j g hj _=>by omega⟩
  ·obtain⟨i,g,q1,q2,q3,q4,q5⟩:=Tile.at p4 (show h.hi+1<=r by omega) h2;refine⟨i+1,g,q1,q2,q3,q4,fun j g hj hg=>?_⟩
   cases j with
   | zero=>simp at hg;subst hg;omega
   | succ j=>exact q5 j g (by omega) (by simpa using hg)
def pick (p:Rule->Bool) (l:List Rule):List Int->Int
 | []=>-1
 | k::ks=>if p (l.getD k.toNat default) then k else pick p l ks
theorem pick_rulesAt {p:Rule->Bool} {x:Int}:∀ (l pre:List Rule),(∀ r∈l,p r=true->has (r.source.headD []) x=true)->pick p (pre++l) (rulesAt pre.length l x)=idxFrom p pre.length l
 | [],pre,h=>rfl
 | r::l,pre,h=>by
  have hr:=h r (by simp);have ih:=pick_rulesAt l (pre++[r]) fun q hq=>h q (by simp[hq]);rw[List.append_assoc,List.length_append] at ih;simp only[List.cons_append,List.nil_append,List.length_cons,List.length_nil,Nat.zero_add] at ih;unfold rulesAt idxFrom
  have hg:(pre++r::l).getD ((pre.length:Int).toNat) default=r:=by
   rw[Int.toNat_natCast,List.getD_eq_getElem?_getD,List.getElem?_append_right (by omega)];simp
  by_cases hp:p r=true
  ·rw[if_pos (hr hp),if_pos hp];unfold pick;rw[hg,if_pos hp]
  ·rw[if_neg hp];split
   ·unfold pick;rw[hg,if_neg hp];exact ih
   ·exact ih
theorem here_has {r:Rule} {t:List Int} {a:Nat} {x:Int} (hs:r.source≠[]) (hx:t[a]? =some x) (h:here r t a=true):has (r.source.headD []) x=true:=by
 unfold here at h;simp only[Bool.and_eq_true] at h;have h1:=h.1.1.1.1;unfold allAt at h1;simp only[Bool.and_eq_true] at h1;have h2:=h1.2;rw[Int.toNat_natCast] at h2
 cases hS:r.source with
 | nil=>exact absurd hS hs
 | cons S R=>
  rw[hS,drop_cons hx] at h2;simp only[zipHas,Bool.and_eq_true] at h2;exact h2.1
theorem find_first {l:List Rule} {t:List Int} {a:Nat} {x:Int} (hs:∀ r∈l,r.source≠[]) (hx:t[a]? =some x):pick (fun r=>here r t a) l (rulesAt 0 l x)=first l t a:=
 pick_rulesAt l [] fun r hr h=>here_has (hs r hr) hx h
end Go.Proofs.YthomjcjnalfipaaGreatDoor
