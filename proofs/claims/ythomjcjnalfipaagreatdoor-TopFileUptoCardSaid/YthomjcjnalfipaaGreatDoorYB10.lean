/- A part of the proofs of the Top laws. -/
import Derived.Test.YthomjcjnalfipaaGreatDoorProg
import Derived.Laws.Cover4
import Derived.Test.YthomjcjnalfipaaGreatDoorRows
import Derived.ProofKit
import Derived.OpenShut
import Derived.ChangeOld
import Derived.Deep.Fields
import Derived.Test.YthomjcjnalfipaaGreatDoorYB09
set_option linter.all false
set_option maxRecDepth 100000
set_option maxHeartbeats 2000000
open Go.Lib (hid)
namespace Go.Proofs.YthomjcjnalfipaaGreatDoor
open Go.RowKit Go.Sort
theorem SlR.cellAt {w:World} {b off n c k:Nat} {ok:Nat->Prop} {l:List Int} {x:Int} (h:SlR rRune 1 ok w (some ⟨b,off,none⟩) n c l) (hx:l[k]? =some x):w.cell? ⟨b,off+k,none⟩=some (.int .i32 x):=by
 obtain⟨b',off',e,_,hc,_⟩:=h.rune hx;injection e with e;injection e with e1 e2;subst e1 e2;exact hc
theorem own_holds {e:TypeId} {base:Nat} {w:World} {v:Value} {l:List Int} (h:OwnR rRune e 1 base w v l) :
  (l=[]/\v=.slice none 0 0)\/∃ g cap,v=.slice (some ⟨g,0,none⟩) l.length cap/\base<=g/\g<w.heap.size/\Holds (Value.int .i32) w g 0 l.toArray/\l.length<=cap/\cap<=maxLen:=by
 have hlt:=h.lt;obtain⟨A,c,hv,hs⟩:=h.top;obtain⟨xs,⟨hl,h | ⟨g,cap,cur,rfl,hb,hh,h1,h2,h3,h4⟩⟩,he⟩:=h
 ·left;exact⟨List.eq_nil_of_length_eq_zero h.2,h.1⟩
 ·right;refine⟨g,cap,rfl,hb,(hlt g rfl).2,fun j hj=>?_,h1,h2⟩;have hj':j<l.length:=by simpa using hj
  injection hv with e1 e2 e3;subst e1;have:=hs.cellAt (List.getElem?_eq_getElem hj');refine⟨?_,?_⟩
  ·rw[toArray_get,List.getD_eq_getElem?_getD,List.getElem?_eq_getElem hj'];exact this
  ·simp[World.frozen?,hh]
theorem holds_own {e:TypeId} {base:Nat} {w w':World} {v:Value} {l l':List Int} {g cap:Nat} (h:OwnR rRune e 1 base w v l) (hv:v=.slice (some ⟨g,0,none⟩) l.length cap) (hl:l'.length=l.length) (hi:∀ r∈l',i32 r)
  (hx:Ext (putRow (Value.int .i32) w g 0 l'.toArray) w'):OwnR rRune e 1 base w' v l':=by
 obtain⟨xs,⟨hxl,h | ⟨g',cap',cur,e1,hb,hh,h1,h2,h3,h4⟩⟩,he⟩:=h
 ·rw[hv] at h;obtain⟨h,_⟩:=h;cases h
 ·rw[hv] at e1;injection e1 with e1 e2 e3;injection e1 with e1;injection e1 with e1;subst e1 e3;have hg:g<w.heap.size:=(Array.getElem?_eq_some_iff.1 hh).1
  have hp:(putRow (Value.int .i32) w g 0 l'.toArray).heap[g]? =some (.cells (putCells (Value.int .i32) 0 l'.toArray cur) e (0,0)):=by
   simp[putRow,mapBlock,Array.getElem?_modify,hh,onCells]
  have hp':=(hx.block (b:=g) (by rw[size_put];exact hg)).trans hp;refine⟨l'.map (Value.int .i32),⟨by simp,.inr ⟨g,cap,_,by rw[hv,hl],hb,hp',by rw[hl];exact h1,h2,by simp[putCells,h3],?_⟩⟩,?_⟩
  ·apply List.ext_getElem?;intro k;rw[List.getElem?_take];by_cases hk:k<l'.length*1
   ·rw[if_pos hk];have hk':k<cur.size:=by omega
    have hk2:k<l'.length:=by omega
    simp only[putCells,Array.getElem?_toList,Array.getElem?_mapIdx,Array.getElem?_eq_getElem hk',Option.map_some,List.getElem?_map];rw[if_pos ⟨by omega,by simp;omega⟩,toArray_get,Nat.sub_zero,List.getD_eq_getElem?_getD,List.getElem?_eq_getElem hk2];rfl
   ·rw[if_neg hk,List.getElem?_map,List.getElem?_eq_none (by omega)];rfl
  ·refine Enc.of_get _ _ (by simp) ?_;intro k x hx';refine⟨[.int .i32 x],rfl,⟨rfl,hi x (List.mem_of_getElem? hx')⟩,fun j u hu=>?_⟩
   match j,hu with
   | 0,hu=>
    simp only[List.getElem?_cons_zero,Option.some.injEq] at hu;subst hu;simp[hx']
theorem ext_put {a w:World} {k:IntKind} (h:Ext a w) {g off:Nat} (hg:a.heap.size<=g) (d:Array Int):Ext a (putRow (Value.int k) w g off d):=by
 have h1:=Ext.below h;refine⟨h1.os,h1.tape,h1.output,by simpa [putRow,mapBlock] using h1.size,fun q hq=>?_⟩;simp only[putRow,mapBlock,Array.getElem?_modify];rw[if_neg (by omega)];exact h1.block q hq
theorem edgesRow {e:TypeId} {base:Nat} {w a:World} {v:Value} {l:List Int} (h:OwnR rRune e 1 base w v l) (ne:l≠[]) (ha:Ext a w) (hb:a.heap.size<=base) (hm:l.length<1152921504606846976) :
  ∃ g cap,v=.slice (some ⟨g,0,none⟩) l.length cap/\base<=g /\
   Calls Tryz.prog 134 #[v] w (fun en w1=>en=.returned (.tuple #[])/\Ext a w1/\∀ W,Ext w1 W ->
    Calls Tryz.prog 135 #[v] W (fun en w2=>en=.returned (.slice (some ⟨g,0,none⟩) (upL l).length cap)/\Ext a w2/\Runes w2 (some ⟨g,0,none⟩) (upL l).length cap (upL l))):=by
 have hall:∀ x∈l,i32 x:=by
  obtain⟨A,c,_,hs⟩:=h.top;intro x hx;obtain⟨k,hk⟩:=List.mem_iff_getElem?.1 hx;obtain⟨_,_,_,_,_,hr⟩:=hs.rune hk;exact hr
 rcases own_holds h with ⟨hn,_⟩ | ⟨g,cap,hv,hg1,hg2,hh,hc1,hc2⟩
 ·exact absurd hn ne
 refine⟨g,cap,hv,hg1,?_⟩;rw[hv];have S0:SE .i32 w g 0 l i32 l w:=SE.start hh hg2 hall;refine (SortR_any g 0 l.length cap l w S0 rfl hm).mono ?_;rintro _ w1 ⟨rfl,D,S1,hp,hs⟩;have hgb:a.heap.size<=g:=by omega
 refine⟨rfl,(ext_put ha hgb _).trans S1.ext,fun W hW=>?_⟩;have hu:upL D=upL l:=up_uniq (up_upL D) (up_upL l) fun z=>mem_upL.trans (hp.mem_iff.trans mem_upL.symm);refine (CompactR_any g 0 l.length cap l D w W (S1.more hW) hp.length_eq hs hm hc1).mono ?_;rintro _ w2 ⟨rfl,z,S2⟩;rw[hu] at S2;have hlen:=S2.len;have O:=holds_own h hv hlen S2.all S2.ext;refine⟨by rw[hu],(ext_put ha hgb _).trans S2.ext,?_⟩;obtain⟨A,c,hv2,hs2⟩:=O.top;rw[hv] at hv2;injection hv2 with e1 e2 e3;subst e1 e3;rw[<- e2] at hs2;have hle:(upL l).length<=l.length:=by rw[<- hlen];simp
 have:=hs2.take hle
 rwa [List.take_left'] at this
 rfl
end Go.Proofs.YthomjcjnalfipaaGreatDoor
namespace Go.Proofs.YthomjcjnalfipaaGreatDoor
open Go.RowKit
theorem setsWrong_any (A:Option Addr) (n c:Nat) (l:List Sp) (w:World) (h:Spans w A n c l) :
  Calls Tryz.prog 50 #[.slice A n c] w fun e w'=>e=.returned (.int .i64 (wrongSet l))/\Ext w w':=by
 have hm:=h.max;unfold maxLen at hm;have hcap:=h.cap;have hlen:=hid h.len;by_cases hbig:200<n
 ·have e:wrongSet l=5:=by unfold wrongSet;rw[if_pos (by rw[h.len];exact hbig)]
  have H:=hid e;clear e;go_enter Tryz.func50,Tryz.ntmps50;go_wp2;go_ret;rw[H.out];exact⟨rfl,Ext.refl _⟩
 have e0:wrongSet l=wrongFrom none l:=by unfold wrongSet;rw[if_neg (by rw[h.len];exact hbig)]
 have H0:=hid e0;clear e0;go_enter Tryz.func50,Tryz.ntmps50;go_wp2;go_loopw [10] (fun i wr=>∃ k:Nat,k<=n/\i=.int .i64 k/\wrongSet l=wrongFrom (prev l k) (l.drop k)/\Hid (∀ y,prev l k=some y->spBad y=false)/\Ext w wr) (fun i _=>n-(intOf i).toNat);case atStart=>exact⟨0,by omega,rfl,H0.out,fun y hy=>by simp[prev] at hy,Ext.refl _⟩
 case round=>
  obtain⟨k,hk,rfl,hkk,hpv,hx⟩:=hrel;have HK:=hid hkk;clear hkk;by_cases hlt:k<n
  ·obtain⟨x,hxx⟩:=h.idx hlt;have HX:=hid hxx;obtain⟨b,off,rfl,⟨hbl,hne⟩,hc1,hc2,hb1,hb2⟩:=(h.ext hx).span hxx;have HD:=hid (drop_cons hxx);clear hxx;by_cases hbad:spBad x=true
   ·have hval:wrongSet l=3:=by rw[HK.out,HD.out,wrongFrom_bad hbad]
    have HV:=hid hval;clear hval;have hbb:=spBad_yes hbad;clear hbad;obtain⟨xlo,xhi⟩:=x;dsimp only at *;by_cases h1:xlo<0
    ·go_wp2;go_ret;rw[HV.out];exact⟨rfl,hx.alloc _⟩
    ·by_cases h2:1114111<xhi
     ·go_wp2;go_ret;rw[HV.out];exact⟨rfl,hx.alloc _⟩
     ·have h3:xhi<xlo:=by omega
      go_wp2;go_ret;rw[HV.out];exact⟨rfl,hx.alloc _⟩
   ·have hgood:spBad x=false:=by simpa using hbad
    have HG:=hid hgood;have hbb:=spBad_no hgood;obtain⟨h1,h2,h3⟩:=hbb;clear hbad hgood;by_cases hz:0<k
    ·obtain⟨y,hy⟩:=h.idx (k:=k-1) (by omega);have hpy:prev l k=some y:=by unfold prev;rw[if_neg (by omega)];exact hy
     have hyg:=hpv.out y hpy;obtain⟨b',off',hA,_,_,hc3,_,hb3⟩:=(h.ext hx).span hy;simp only[Option.some.injEq,Addr.mk.injEq,and_true] at hA;obtain⟨rfl,rfl⟩:=hA;have hyh:=(spBad_no hyg).2.1;have HP:=hid hpy;clear hpy hy hyg;have hp2:((k-1:Nat):Int)<(n:Int):=by omega
     obtain⟨xlo,xhi⟩:=x;obtain⟨ylo,yhi⟩:=y;dsimp only at *;have hw1:IntKind.i64.wrap ((k:Int)-1)=((k-1:Nat):Int):=(IntWalk.i64_in _ (by omega)).trans (by omega);have hw2:IntKind.i32.wrap (yhi+1)=yhi+1:=IntWalk.i32_in _ (by omega);by_cases hnr:xlo<=yhi+1
     ·go_wp2;go_quiet (fail);clear hw1 hw2;go_wp2;go_ret;rw[HK.out,HD.out,HP.out,wrongFrom_near HG.out (near_yes hnr)];exact⟨rfl,(hx.alloc _).drewN _⟩
     ·have hnr':decide (xlo<=yhi+1)=false:=by simpa using hnr
      go_wp2;go_quiet (fail);clear hw1 hw2;go_wp2;go_roundw;case rel=>exact⟨k+1,by omega,by go_num,by rw[HK.out,HD.out,HP.out,prev_succ HX.out,wrongFrom_next HG.out (near_no (by dsimp only;omega))],fun y hy=>by rw[prev_succ HX.out] at hy;cases hy;exact HG.out,(hx.alloc _).drewN _⟩
      case measure=>simp[intOf];omega
    ·have hpn:prev l k=none:=by unfold prev;rw[if_pos (by omega)]
     have HP:=hid hpn;clear hpn;have hz':decide ((0:Int)<(k:Int))=false:=by simp;omega
     obtain⟨xlo,xhi⟩:=x;dsimp only at *;go_wp2;go_quiet (fail);go_wp2;go_roundw;case rel=>exact⟨k+1,by omega,by go_num,by rw[HK.out,HD.out,prev_succ HX.out,HP.out];exact wrongFrom_next HG.out rfl,fun y hy=>by rw[prev_succ HX.out] at hy;cases hy;exact HG.out,(hx.alloc _).drewN _⟩
     case measure=>simp[intOf];omega
  ·go_wp2;go_ret;rw[HK.out,drop_end hlen.out hlt];exact⟨rfl,hx⟩
theorem any_not {α :Type} (p: α ->Bool) (l:List α):(l.any fun x=>!p x)= !l.all p:=by
 induction l with
 | nil=>rfl
 | cons x r ih=>simp only[List.any_cons,List.all_cons,ih];cases p x <;> rfl
theorem Text_any (A:Option Addr) (n c:Nat) (l:List Int) (w:World) (h:Runes w A n c l) :
  Calls Tryz.prog 25 #[.slice A n c] w fun e w'=>e=.returned (.int .i64 (wrongText l))/\Ext w w':=by
 have eg:=enters Tryz.func54 (by kernel_rfl) rfl;have hm:=h.max;unfold maxLen at hm;have hcap:=h.cap;by_cases hbig:4000<n
 ·have e:wrongText l=4:=by unfold wrongText;rw[if_pos (by rw[h.len];exact hbig)]
  have H:=hid e;clear e;go_enter Tryz.func25,Tryz.ntmps25;go_wp2;go_ret;rw[H.out];exact⟨rfl,Ext.refl _⟩
 have HC:=hid (ContainsRune_any A n c l w 54 #[] (fun x=>!right x) eg (fun W x _=>(notRight2_any x W).mono fun e w' ⟨h1,h2⟩=>⟨h1,by rw[h2];exact Ext.refl _⟩) h);have hlen:=hid h.len;clear h;cases ha:l.all right
 ·have e:wrongText l=3:=by unfold wrongText;rw[if_neg (by rw[hlen.out];exact hbig)];simp[ha]
  have H:=hid e;clear e;have e2:(l.any fun x=>!right x)=true:=by rw[any_not,ha];rfl
  have H2:=hid e2;clear e2 ha;go_enter Tryz.func25,Tryz.ntmps25;go_wp2_with (go_at_call 53;refine HC.out.mono ?_;rintro e w' ⟨rfl,hx⟩;rw[H2.out]);go_ret;rw[H.out];exact⟨rfl,hx⟩
 ·have e:wrongText l=0:=by unfold wrongText;rw[if_neg (by rw[hlen.out];exact hbig)];simp[ha]
  have H:=hid e;clear e;have e2:(l.any fun x=>!right x)=false:=by rw[any_not,ha];rfl
  have H2:=hid e2;clear e2 ha;go_enter Tryz.func25,Tryz.ntmps25;go_wp2_with (go_at_call 53;refine HC.out.mono ?_;rintro e w' ⟨rfl,hx⟩;rw[H2.out]);go_ret;rw[H.out];exact⟨rfl,hx⟩
abbrev Sides (w:World) (A:Option Addr) (n c:Nat) (l:List (List (List Sp))):Prop:=SlR (rSl (rSl rSpan 2 top) 1 top) 1 top w A n c l
section
variable (s f : Bool) (A1 : Option Addr) (n1 c1 : Nat) (A2 : Option Addr) (n2 c2 : Nat) (A3 : Option Addr) (n3 c3 : Nat) (A4 : Option Addr) (n4 c4 : Nat) (q : Int) (r : Rule) (w : World)
theorem sides_new {w':World} (h:RuleV w s f A1 n1 c1 A2 n2 c2 A3 n3 c3 A4 n4 c4 q r) (hx:Ext w w') (t:TypeId) :
  Sides (w'.alloc (.cells #[.slice A1 n1 c1,.slice A2 n2 c2,.slice A3 n3 c3] t)) (some ⟨w'.heap.size,0,none⟩) 3 3 [r.before,r.source,r.after]:=by
 have hy:=hx.alloc (.cells #[.slice A1 n1 c1,.slice A2 n2 c2,.slice A3 n3 c3] t);refine SlR.fresh rfl (by simp[maxLen]) fun k x hxx=>?_
 match k,hxx with
 | 0,hxx=>cases hxx;exact⟨[.slice A1 n1 c1],rfl,⟨A1,n1,c1,rfl,h.before.ext hy⟩,fun j u hu=>by match j,hu with | 0,hu=>simpa using hu⟩
 | 1,hxx=>cases hxx;exact⟨[.slice A2 n2 c2],rfl,⟨A2,n2,c2,rfl,h.source.ext hy⟩,fun j u hu=>by match j,hu with | 0,hu=>simpa using hu⟩
 | 2,hxx=>cases hxx;exact⟨[.slice A3 n3 c3],rfl,⟨A3,n3,c3,rfl,h.after.ext hy⟩,fun j u hu=>by match j,hu with | 0,hu=>simpa using hu⟩
end
end Go.Proofs.YthomjcjnalfipaaGreatDoor
namespace Go.Proofs.YthomjcjnalfipaaGreatDoor
open Go.RowKit
section
variable (s f : Bool) (A1 : Option Addr) (n1 c1 : Nat) (A2 : Option Addr) (n2 c2 : Nat) (A3 : Option Addr) (n3 c3 : Nat) (A4 : Option Addr) (n4 c4 : Nat) (q : Int) (r : Rule) (w : World)
theorem Wrong_any (h:RuleV w s f A1 n1 c1 A2 n2 c2 A3 n3 c3 A4 n4 c4 q r) :
  Calls Tryz.prog 57 #[.agg #[.bool s,.bool f,.slice A1 n1 c1,.slice A2 n2 c2,.slice A3 n3 c3,.slice A4 n4 c4,.int .i64 q]] w
   fun e w'=>e=.returned (.int .i64 (wrongRule r))/\Ext w w':=by
 have eg:=enters Tryz.func94 (by kernel_rfl) rfl;have hS:=sides_new s f A1 n1 c1 A2 n2 c2 A3 n3 c3 A4 n4 c4 q r w h ((Ext.refl w).alloc (.cells #[.bool s,.bool f,.slice A1 n1 c1,.slice A2 n2 c2,.slice A3 n3 c3,.slice A4 n4 c4,.int .i64 q] 61)) 59;have hx2:Ext w ((w.alloc (.cells #[.bool s,.bool f,.slice A1 n1 c1,.slice A2 n2 c2,.slice A3 n3 c3,.slice A4 n4 c4,.int .i64 q] 61)).alloc (.cells #[.slice A1 n1 c1,.slice A2 n2 c2,.slice A3 n3 c3] 59)):=((Ext.refl _).alloc _).alloc _;have b3:((w.alloc (.cells #[.bool s,.bool f,.slice A1 n1 c1,.slice A2 n2 c2,.slice A3 n3 c3,.slice A4 n4 c4,.int .i64 q] 61)).alloc (.cells #[.slice A1 n1 c1,.slice A2 n2 c2,.slice A3 n3 c3] 59)).cell? ⟨w.heap.size,3,none⟩=some (.slice A2 n2 c2):=by simp
 have b5:((w.alloc (.cells #[.bool s,.bool f,.slice A1 n1 c1,.slice A2 n2 c2,.slice A3 n3 c3,.slice A4 n4 c4,.int .i64 q] 61)).alloc (.cells #[.slice A1 n1 c1,.slice A2 n2 c2,.slice A3 n3 c3] 59)).cell? ⟨w.heap.size,5,none⟩=some (.slice A4 n4 c4):=by simp
 have b6:((w.alloc (.cells #[.bool s,.bool f,.slice A1 n1 c1,.slice A2 n2 c2,.slice A3 n3 c3,.slice A4 n4 c4,.int .i64 q] 61)).alloc (.cells #[.slice A1 n1 c1,.slice A2 n2 c2,.slice A3 n3 c3] 59)).cell? ⟨w.heap.size,6,none⟩=some (.int .i64 q):=by simp
 simp only[World.size_alloc] at hS;have HR:=hid h;clear h;go_enter Tryz.func57,Tryz.ntmps57;go_wp2;generalize (w.alloc (.cells #[.bool s,.bool f,.slice A1 n1 c1,.slice A2 n2 c2,.slice A3 n3 c3,.slice A4 n4 c4,.int .i64 q] 61)).alloc (.cells #[.slice A1 n1 c1,.slice A2 n2 c2,.slice A3 n3 c3] 59)=w2 at *;go_loopw [16] (fun i wr=>∃ k:Nat,k<=3/\i=.int .i64 k/\wrongSides [r.before,r.source,r.after]=wrongSides ([r.before,r.source,r.after].drop k)/\Ext w2 wr) (fun i _=>3-(intOf i).toNat);case atStart=>exact⟨0,by omega,rfl,rfl,Ext.refl _⟩
 case round=>
  obtain⟨k,hk,rfl,hkk,hx⟩:=hrel;have HK:=hid hkk;clear hkk;by_cases hlt:k<3
  ·obtain⟨S,hSS⟩:=hS.idx hlt;obtain⟨bb,oo,A',n',c',hA,⟨_,hne⟩,hc,hsl⟩:=(hS.ext (keep_sl keep_set) hx).sl hSS;simp only[Option.some.injEq,Addr.mk.injEq,and_true] at hA;obtain⟨rfl,rfl⟩:=hA;simp only[Nat.zero_add] at hc;have HD:=hid (drop_cons hSS);clear hSS;have hm:=hsl.max;unfold maxLen at hm;have hcap:=hsl.cap;by_cases hbig:20<n'
   ·have e:wrongRule r=5:=by
     have h5:=wrongSide_big hsl.len hbig;have:wrongSides [r.before,r.source,r.after]=5:=by rw[HK.out,HD.out,wrongSides_bad (by rw[h5];omega),h5]
     rw[wrongRule_sides (by rw[this];omega),this]
    have H:=hid e;clear e;go_wp2;go_ret;rw[H.out];exact⟨rfl,hx2.trans hx⟩
   ·have H5:=hid (wrongSide_small hsl.len hbig);have hlen:=hid hsl.len;have hk3:decide ((k:Int)<3)=true:=by simp;omega
    obtain⟨wo,rfl⟩:∃ wo:World,wo=wr:=⟨_,rfl⟩
    go_wp2;go_loopw [25] (fun i wq=>∃ j:Nat,j<=n'/\i=.int .i64 j/\wrongSets S=wrongSets (S.drop j)/\Ext wo wq) (fun i _=>n'-(intOf i).toNat);case atStart=>exact⟨0,by omega,rfl,rfl,Ext.refl _⟩
    case round=>
     obtain⟨j,hj,rfl,hjj,hy⟩:=hrel;have HJ:=hid hjj;clear hjj;by_cases hlj:j<n'
     ·obtain⟨T,hTT⟩:=hsl.idx hlj;obtain⟨b2,o2,A2',n2',c2',rfl,⟨_,hne2⟩,hc2,hst⟩:=(hsl.ext keep_set hy).sl hTT;have HD2:=hid (drop_cons hTT);clear hTT;have hbd:=wrongSet_bd T;have HC:=hid (setsWrong_any A2' n2' c2' T wr hst);by_cases hz:wrongSet T=0
      ·have HZ:=hid hz;clear hz hbd;go_wp2_with (go_at_call 50;refine HC.out.mono ?_;rintro e w1 ⟨rfl,hx1⟩;rw[HZ.out]);go_roundw;case rel=>exact⟨j+1,by omega,by go_num,by rw[HJ.out,HD2.out,wrongSets_ok HZ.out],hy.trans hx1⟩
       case measure=>simp[intOf];omega
      ·have e:wrongRule r=wrongSet T:=by
        have h1:wrongSets S=wrongSet T:=by rw[HJ.out,HD2.out,wrongSets_bad hz]
        have h2:wrongSide S=wrongSet T:=by rw[H5.out,h1]
        have h3:wrongSides [r.before,r.source,r.after]=wrongSet T:=by rw[HK.out,HD.out,wrongSides_bad (by rw[h2];exact hz),h2]
        rw[wrongRule_sides (by rw[h3];exact hz),h3]
       have H:=hid e;clear e;have hz':(wrongSet T != 0)=true:=by simpa using hz
       go_wp2_with (go_at_call 50;refine HC.out.mono ?_;rintro e w1 ⟨rfl,hx1⟩);go_ret;rw[H.out];exact⟨rfl,hx2.trans (hx.trans (hy.trans hx1))⟩
     ·have hs0:wrongSets S=0:=by rw[HJ.out,drop_end hlen.out hlj];rfl
      have HS0:=hid hs0;clear hs0;go_wp2;go_roundw;case rel=>exact⟨k+1,by omega,by go_num,by rw[HK.out,HD.out,wrongSides_ok (by rw[H5.out,HS0.out])],hx.trans hy⟩
      case measure=>simp[intOf];omega
  ·have b3':=hx.cell b3;have b5':=hx.cell b5;have b6':=hx.cell b6;have hs0:wrongSides [r.before,r.source,r.after]=0:=by rw[HK.out,drop_end (n:=3) rfl hlt];rfl
   have h:=HR.out;have hrest:=hid (wrongRule_rest hs0);have hmT:=h.target.max;unfold maxLen at hmT;have hmS:=h.source.max;unfold maxLen at hmS;have hcT:=h.target.cap;have hcS:=h.source.cap;have hsl:=hid h.source.len;have htl:=hid h.target.len;have hq:=hid h.cursor;have HC:=hid (ContainsRune_any A4 n4 c4 r.target wr 94 #[] (fun x=>!right x) eg (fun W x _=>(notRight_any x W).mono fun e w' ⟨h1,h2⟩=>⟨h1,by rw[h2];exact Ext.refl _⟩) ((h.target.ext hx2).ext hx));have hxx:=hx2.trans hx;clear hs0 HK hS hx h;by_cases t1:n2=0
   ·have t1':((n2:Int)==0)=true:=by simpa using t1
    have e:wrongRule r=6:=by rw[hrest.out];unfold wrongRest;rw[if_pos (by rw[hsl.out];omega)]
    have H:=hid e;clear e;go_wp2;go_ret;rw[H.out];exact⟨rfl,hxx⟩
   have t1':((n2:Int)==0)=false:=by simpa using t1
   by_cases t2:20<n4
   ·have e:wrongRule r=5:=by rw[hrest.out];unfold wrongRest;rw[if_neg (by rw[hsl.out];omega),if_pos (by rw[htl.out];omega)]
    have H:=hid e;clear e;go_wp2;go_ret;rw[H.out];exact⟨rfl,hxx⟩
   cases t3:r.target.all right
   ·have e:wrongRule r=3:=by rw[hrest.out];unfold wrongRest;rw[if_neg (by rw[hsl.out];omega),if_neg (by rw[htl.out];omega),if_pos (by rw[t3];rfl)]
    have H:=hid e;clear e;have e3:(r.target.any fun x=>!right x)= !r.target.all right:=any_not _ _;simp only[t3,Bool.not_true,Bool.not_false] at e3;have H3:=hid e3;clear t3 e3;go_wp2_with (go_at_call 53;refine HC.out.mono ?_;rintro e w1 ⟨rfl,hx1⟩;rw[H3.out];have b5w:=hx1.cell b5';have b6w:=hx1.cell b6');go_ret;rw[H.out];exact⟨rfl,hxx.trans hx1⟩
   ·have e:wrongRule r=if q<0\/(n4:Int)<q then 3 else 0:=by rw[hrest.out];unfold wrongRest;rw[if_neg (by rw[hsl.out];omega),if_neg (by rw[htl.out];omega),if_neg (by rw[t3];simp),htl.out,hq.out]
    have H:=hid e;clear e;have e3:(r.target.any fun x=>!right x)= !r.target.all right:=any_not _ _;simp only[t3,Bool.not_true,Bool.not_false] at e3;have H3:=hid e3;clear t3 e3;by_cases t4:q<0
    ·go_wp2_with (go_at_call 53;refine HC.out.mono ?_;rintro e w1 ⟨rfl,hx1⟩;rw[H3.out];have b5w:=hx1.cell b5';have b6w:=hx1.cell b6');go_ret;rw[H.out,if_pos (Or.inl t4)];exact⟨rfl,hxx.trans hx1⟩
    ·by_cases t5:(n4:Int)<q
     ·go_wp2_with (go_at_call 53;refine HC.out.mono ?_;rintro e w1 ⟨rfl,hx1⟩;rw[H3.out];have b5w:=hx1.cell b5';have b6w:=hx1.cell b6');go_ret;rw[H.out,if_pos (Or.inr t5)];exact⟨rfl,hxx.trans hx1⟩
     ·go_wp2_with (go_at_call 53;refine HC.out.mono ?_;rintro e w1 ⟨rfl,hx1⟩;rw[H3.out];have b5w:=hx1.cell b5';have b6w:=hx1.cell b6');go_ret;rw[H.out,if_neg (by omega)];exact⟨rfl,hxx.trans hx1⟩
end
end Go.Proofs.YthomjcjnalfipaaGreatDoor
namespace Go.Proofs.YthomjcjnalfipaaGreatDoor
open Go.RowKit
theorem T_rune:ElemT Tryz.prog 31 21 1 4:=elemT Tryz.underlying31 (z:=.int .i32 0) (by kernel_rfl) rfl (by omega)
section
variable {α : Type} {R : World -> List Value -> α -> Prop}
theorem Clone_rune (one:One R) {okk:Nat->Prop} (hk:Keep R okk) (A:Option Addr) (n c:Nat) (l:List α) (w:World) {ok:Nat->Prop} (h:SlR R 1 ok w A n c l) (hb:n*4<=140737488355328) (hd:∀ g,w.heap.size<=g->¬ okk g) :
  Calls Tryz.prog 27 #[.slice A n c] w fun e w'=>∃ v,e=.returned v/\OwnR R 21 1 w.heap.size w' v l/\Ext w w':=by
 have hcap:=h.cap;have hmax:=h.max;have hlen:=h.len;rcases A with _ | ad
 ·have hl:l=[]:=by
   cases hl:l with
   | nil=>rfl
   | cons x r=>obtain⟨b,off,vs,e,_⟩:=h.at_ 0 x (by rw[hl];rfl);cases e
  subst hl;have en:=fun W=>Lib.run_eql_slice_nil (P:=Tryz.prog) W 31 21 none n c 0 0 Tryz.underlying31;go_enter Tryz.func27,Tryz.ntmps27;go_wp2;go_ret;exact⟨_,rfl,OwnR.nil _ _ _ _ _,Ext.refl _⟩
 ·have en:=fun W=>Lib.run_eql_slice_nil (P:=Tryz.prog) W 31 21 (some ad) n c 0 0 Tryz.underlying31;have e1:=(Ext.refl w).alloc (.cells #[] 21);have o1:=OwnR.empty R 21 1 w.heap.size w (Nat.le_refl _);have hs:=h.extX (hk.x) e1;go_enter Tryz.func27,Tryz.ntmps27
  go_wp2_with (at_builtin
               refine wpList_app T_rune rfl (.tmp 5) (.tmp 6) rfl rfl o1 rfl hs (fun _ _ h=>h) one hk (fun g hg=>hd g (o1.lt g hg).1) ?_ ?_ e1.size ?_
               ·simpa using hb
               ·simp only[List.length_nil,Nat.zero_add];omega
               intro v1 w1 o2 g1 hat1)
  go_ret;exact⟨v1,rfl,by simpa using o2,e1.app g1 o1⟩
theorem take_flatten_le {l:List (List α)} (k:Nat):(l.take k).flatten.length<=l.flatten.length:=by
 conv=>rhs;rw[<- List.take_append_drop k l,List.flatten_append,List.length_append]
 omega
end
theorem here_room {r:Rule} {t:List Int} {a:Nat} (h:here r t a=true):a+r.source.length<=t.length:=by
 unfold here at h;simp only[Bool.and_eq_true] at h;have:=h.1.1.1.1;unfold allAt at this;simp only[Bool.and_eq_true,decide_eq_true_eq] at this;omega
end Go.Proofs.YthomjcjnalfipaaGreatDoor
namespace Go.Proofs.YthomjcjnalfipaaGreatDoor
inductive PR (α :Type) where
 | ok (a: α) (k:Nat)
 | fail (e:Int) (p:Nat)
def PR.bind {α β :Type} (x:PR α) (f: α ->Nat->PR β):PR β:=
 match x with
 | .ok a k=>f a k
 | .fail e p=>.fail e p
def lookF (L:List Int) (k:Nat):Int:=L.getD k (-1)
def blankB (r:Int):Bool:=r==32||(r==9||r==10)
def special:List Int:=[91,93,38,45,94,92,58,36,40,41,123,125,60,62,124,59,35,39,34,61,44]
def plainB (r:Int):Bool:=decide (0<=r)&&(!blankB r&& !special.contains r)
def lineB (r:Int):Bool:=decide (0<=r)&&r != 10
def letterB (r:Int):Bool:=(decide (97<=r)&&decide (r<=122))||r==95
def digitB (r:Int):Bool:=decide (48<=r)&&decide (r<=57)
def hexB (r:Int):Bool:=[48,49,50,51,52,53,54,55,56,57,97,98,99,100,101,102,65,66,67,68,69,70].contains r
def scanN (p:Int->Bool) (L:List Int):Nat->Nat->Nat
 | 0,k=>k
 | f+1,k=>if p (lookF L k) then scanN p L f (k+1) else k
def scanF (p:Int->Bool) (L:List Int) (k:Nat):Nat:=scanN p L (L.length-k) k
def skipF (L:List Int) (k:Nat):Nat:=scanF blankB L k
def spaceN (L:List Int):Nat->Nat->Nat
 | 0,k=>k
 | f+1,k=>if lookF L (skipF L k)=35 then spaceN L f (scanF lineB L (skipF L k)) else skipF L k
def spaceF (L:List Int) (k:Nat):Nat:=spaceN L (L.length+1) k
def wordF (L:List Int) (k:Nat):Nat:=if letterB (lookF L k) then scanF (fun r=>letterB r||digitB r) L (k+1) else k
def nameB (L:List Int) (a b:Nat):ByteArray:=runesBytes ((L.take b).drop a)
def needF (L:List Int) (r:Int) (k:Nat):PR Unit:=if lookF L k=r then .ok () (k+1) else .fail 2 k
def hexV (r:Int):Int:=if r<=57 then r-48 else if 97<=r then r-87 else r-55
def hexN (l:List Int):Int:=l.foldl (fun n r=>n*16+hexV r) 0
def hexF (L:List Int) (k:Nat):PR Int:=
 if lookF L (k+1)≠123 then .fail 2 (k+1)
 else
  let e:=scanF hexB L (k+2)
  if e<k+3\/k+8<e then .fail 2 (k+2)
  else if lookF L e≠125 then .fail 2 e
  else if 1114111<hexN ((L.take e).drop (k+2)) then .fail 3 k
  else .ok (hexN ((L.take e).drop (k+2))) (e+1)
def charF (L:List Int) (k:Nat):PR Int:=
 if plainB (lookF L k) then .ok (lookF L k) (k+1)
 else if lookF L k≠92 then .fail 2 k
 else if lookF L (k+1)=110 then .ok 10 (k+2)
 else if lookF L (k+1)=116 then .ok 9 (k+2)
 else if lookF L (k+1)=117 then hexF L (k+1)
 else if lookF L (k+1)<0\/digitB (lookF L (k+1))\/(97<=lookF L (k+1)/\lookF L (k+1)<=122)\/(65<=lookF L (k+1)/\lookF L (k+1)<=90) then .fail 2 (k+1)
 else .ok (lookF L (k+1)) (k+2)
theorem look_lt {L:List Int} {k:Nat} (h:lookF L k≠ -1):k<L.length:=by
 by_cases hk:k<L.length
 ·exact hk
 ·exact absurd (by unfold lookF;rw[List.getD_eq_getElem?_getD,List.getElem?_eq_none (by omega)];rfl) h
theorem look_get {L:List Int} {k:Nat} {x:Int} (h:L[k]? =some x):lookF L k=x:=by unfold lookF;rw[List.getD_eq_getElem?_getD,h];rfl
theorem look_end {L:List Int} {k:Nat} (h:L.length<=k):lookF L k= -1:=by unfold lookF;rw[List.getD_eq_getElem?_getD,List.getElem?_eq_none h];rfl
section
variable {p : Int -> Bool} {L : List Int} {k : Nat}
theorem scanF_lt (hp:p (-1)=false) (h:p (lookF L k)=true):k<L.length:=look_lt (fun e=>by rw[e,hp] at h;cases h)
theorem scanF_go (hp:p (-1)=false) (h:p (lookF L k)=true):scanF p L (k+1)=scanF p L k:=by
 have hk:=scanF_lt hp h;unfold scanF;rw[show L.length-k=(L.length-(k+1))+1 by omega,scanN,if_pos h]
theorem scanF_stop (h:p (lookF L k)=false):scanF p L k=k:=by
 unfold scanF
 cases L.length-k with
 | zero=>rfl
 | succ n=>rw[scanN,if_neg (by simp[h])]
theorem scanN_ge:∀ (f k:Nat),k<=scanN p L f k
 | 0,k=>Nat.le_refl _
 | f+1,k=>by
  unfold scanN;split
  ·have:=scanN_ge f (k+1);omega
  ·omega
theorem scanN_le:∀ (f k:Nat),scanN p L f k<=k+f
 | 0,k=>Nat.le_refl _
 | f+1,k=>by
  unfold scanN;split
  ·have:=scanN_le f (k+1);omega
  ·omega
theorem scanF_ge:k<=scanF p L k:=scanN_ge _ _
theorem scanF_le (h:k<=L.length):scanF p L k<=L.length:=by
 have:=scanN_le (p:=p) (L:=L) (L.length-k) k;unfold scanF;omega
end
theorem blank_end:blankB (-1)=false:=rfl
theorem line_end:lineB (-1)=false:=rfl
theorem plain_end:plainB (-1)=false:=rfl
theorem hex_end:hexB (-1)=false:=rfl
theorem wordc_end:(fun r=>letterB r||digitB r) (-1)=false:=rfl
end Go.Proofs.YthomjcjnalfipaaGreatDoor
