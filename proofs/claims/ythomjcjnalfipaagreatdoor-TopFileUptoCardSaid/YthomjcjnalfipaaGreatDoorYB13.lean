/- A part of the proofs of the Top laws. -/
import Derived.Test.YthomjcjnalfipaaGreatDoorYB12
set_option linter.all false
set_option maxRecDepth 100000
set_option maxHeartbeats 3200000
open Go.Lib (hid)
namespace Go.Proofs.YthomjcjnalfipaaGreatDoor
open Go.RowKit
def notFrom:Int->List Sp->List Sp
 | a,[]=>if a<=1114111 then [⟨a,1114111⟩] else []
 | a,x::l=>(if a<x.lo then [⟨a,x.lo-1⟩] else [])++notFrom (x.hi+1) l
def notL (l:List Sp):List Sp:=notFrom 0 l
theorem notFrom_spec:∀ (l:List Sp) (a:Int),Canon l->0<=a->a<=1114112->(∀ x∈l,a<=x.lo) ->
  Canon (notFrom a l)/\(∀ y∈notFrom a l,a<=y.lo)/\∀ r,has (notFrom a l) r=(decide (a<=r/\r<=1114111)&& !has l r)
 | [],a,_,h0,h1,_=>by
  unfold notFrom;by_cases h:a<=1114111
  ·rw[if_pos h];refine⟨⟨fun x hx=>by simp at hx;subst hx;exact⟨h0,h,Int.le_refl _⟩,by simp⟩,fun y hy=>by simp at hy;subst hy;exact Int.le_refl _,fun r=>?_⟩;rw[has_cons,has_nil,Bool.or_false,Bool.not_false,Bool.and_true,Bool.eq_iff_iff,inSp_iff,decide_eq_true_eq]
  ·rw[if_neg h];refine⟨Canon.nil,fun y hy=>by simp at hy,fun r=>?_⟩;rw[has_nil,decide_eq_false (by omega)];rfl
 | x::l,a,hc,h0,h1,hx=>by
  have hxr:=hc.rng x (by simp);have hxa:=hx x (by simp);obtain⟨k1,k2,k3⟩:=notFrom_spec l (x.hi+1) hc.tail (by omega) (by omega) (fun y hy=>by have:=(List.pairwise_cons.1 hc.pw).1 y hy;omega);have hbeh:∀ r,has l r=true->x.hi+1<r:=fun r hr=>hc.behind hr;unfold notFrom;by_cases h:a<x.lo
  ·rw[if_pos h];refine⟨⟨fun y hy=>?_,?_⟩,fun y hy=>?_,fun r=>?_⟩
   ·rcases List.mem_append.1 hy with hy | hy
    ·simp at hy;subst hy;exact⟨h0,by simp only[];omega,by simp only[];omega⟩
    ·exact k1.rng y hy
   ·rw[List.singleton_append,List.pairwise_cons];exact⟨fun y hy=>by have:=k2 y hy;simp only[];omega,k1.pw⟩
   ·rcases List.mem_append.1 hy with hy | hy
    ·simp at hy;subst hy;exact Int.le_refl _
    ·have:=k2 y hy;omega
   ·rw[List.singleton_append,has_cons,k3,has_cons];rw[Bool.eq_iff_iff];simp only[Bool.or_eq_true,Bool.and_eq_true,Bool.not_eq_true',Bool.or_eq_false_iff,decide_eq_true_eq,inSp_iff]
    have hb:(has l r=false/\(x.hi+1<r\/r<=x.hi+1))\/(has l r=true/\x.hi+1<r):=by
     cases e:has l r
     ·exact .inl ⟨rfl,by omega⟩
     ·exact .inr ⟨rfl,hbeh r e⟩
    have hi:inSp x r=false↔¬ (x.lo<=r/\r<=x.hi):=by rw[<- inSp_iff];simp
    rw[hi];rcases hb with ⟨e,_⟩ | ⟨e,e2⟩ <;> rw[e] <;> simp <;> omega
  ·rw[if_neg h,List.nil_append];refine⟨k1,fun y hy=>by have:=k2 y hy;omega,fun r=>?_⟩;rw[k3,has_cons];rw[Bool.eq_iff_iff];simp only[Bool.and_eq_true,Bool.not_eq_true',Bool.or_eq_false_iff,decide_eq_true_eq];have hi:inSp x r=false↔¬ (x.lo<=r/\r<=x.hi):=by rw[<- inSp_iff];simp
   rw[hi]
   have hb:has l r=false\/(has l r=true/\x.hi+1<r):=by
    cases e:has l r
    ·exact .inl rfl
    ·exact .inr ⟨rfl,hbeh r e⟩
   rcases hb with e | ⟨e,e2⟩ <;> rw[e] <;> simp <;> omega
theorem not_canon {l:List Sp} (h:Canon l):Canon (notL l):=(notFrom_spec l 0 h (by omega) (by omega) (fun x hx=>(h.rng x hx).1)).1
theorem notFrom_len:∀ (l:List Sp) (a:Int),(notFrom a l).length<=l.length+1
 | [],a=>by unfold notFrom;split <;> simp
 | x::l,a=>by
  unfold notFrom;have:=notFrom_len l (x.hi+1);rw[List.length_append,List.length_cons];split
  ·simp;omega
  ·simp;omega
def meetL:List Sp->List Sp->List Sp
 | x::a,y::b=>(if max x.lo y.lo<=min x.hi y.hi then [⟨max x.lo y.lo,min x.hi y.hi⟩] else [])++(if x.hi<y.hi then meetL a (y::b) else meetL (x::a) b)
 | [],_=>[]
 | _::_,[]=>[]
termination_by a b=>a.length+b.length
theorem meetL_cons (x y:Sp) (a b:List Sp):meetL (x::a) (y::b)=(if max x.lo y.lo<=min x.hi y.hi then [⟨max x.lo y.lo,min x.hi y.hi⟩] else [])++(if x.hi<y.hi then meetL a (y::b) else meetL (x::a) b):=by rw[meetL]
theorem meetL_nil (b:List Sp):meetL [] b=[]:=by rw[meetL]
theorem meetL_nil' (a:List Sp):meetL a []=[]:=by cases a <;> rw[meetL]
theorem OwnR.ne_new {α :Type} {R:World->List Value-> α ->Prop} {e:TypeId} {sz base:Nat} {w:World} {v:Value} {l:List α} (h:OwnR R e sz base w v l):v.ownBlock≠some w.heap.size:=fun e=>by have:=(h.lt _ e).2;omega
theorem not_any (A:Option Addr) (n c:Nat) (l:List Sp) (w:World) (h:Spans w A n c l) (G:Good l) :
  Calls Tryz.prog 147 #[.slice A n c] w fun e w'=>∃ v,e=.returned v/\OwnR rSpan 30 2 w.heap.size w' v (notL l)/\Ext w w':=by
 have hlen:=hid h.len;have hcap:=h.cap;have hn:n<=200:=by rw[<- h.len];exact G.len
 have HG:=hid G.rng;have HP:=hid G.pw;clear G;go_enter Tryz.func147,Tryz.ntmps147;go_wp2;go_loopw [3,4,9] (fun v a i wr=>∃ (k:Nat) (at_:Int) (out:List Sp),k<=n/\i=.int .i64 k/\a=.int .i32 at_/\0<=at_/\at_<=1114112/\out.length<=k/\notL l=out++notFrom at_ (l.drop k)/\OwnR rSpan 30 2 w.heap.size wr v out/\Ext w wr) (fun _ _ i _=>n-(intOf i).toNat);case atStart=>exact⟨0,0,[],by omega,rfl,rfl,by omega,by omega,by simp,rfl,OwnR.nil _ _ _ _ _,Ext.refl _⟩
 case round=>
  obtain⟨k,at_,out,hk,rfl,rfl,ha0,ha1,hol,hkk,ow,hx⟩:=hrel;have HK:=hid hkk;clear hkk;by_cases hlt:k<n
  ·obtain⟨x,hxx⟩:=h.idx hlt;obtain⟨b,off,rfl,⟨_,hne⟩,c1,c2,xb1,xb2⟩:=(h.ext hx).span hxx;obtain⟨hx1,hx2,hx3⟩:=HG.out x (List.mem_of_getElem? hxx);have HD:=hid (drop_cons hxx);clear hxx;have X1:=hid (cell_new wr #[.int .i32 x.lo,.int .i32 x.hi] 30 1 (.int .i32 x.hi) rfl);have hov:=ow.ne_new;have ex:=(Ext.refl wr).alloc (.cells #[.int .i32 x.lo,.int .i32 x.hi] 30);by_cases t:at_<x.lo
   ·have t':decide (at_<x.lo)=true:=by simpa using t
    have HK2:Hid (notL l=(out++[⟨at_,x.lo-1⟩])++notFrom (x.hi+1) (l.drop (k+1))):=hid (by rw[HK.out,HD.out,notFrom,if_pos t,List.append_assoc]);have hx6:=(hx.trans ex).alloc (.cells #[.int .i32 at_,.int .i32 (x.lo-1)] 30);have ow6:=ow.ext (keep_span bot) (ex.alloc (.cells #[.int .i32 at_,.int .i32 (x.lo-1)] 30));have s6:=span_new (wr.alloc (.cells #[.int .i32 x.lo,.int .i32 x.hi] 30)) ⟨at_,x.lo-1⟩ 30 (by unfold i32;simp only[];omega) (by unfold i32;simp only[];omega);rw[World.size_alloc] at s6
    go_wp2_with (at_builtin
                 refine wpList_appS T_span (by omega) rfl (.tmp 17) (.tmp 23) rfl rfl ow6 rfl s6 (fun _ _ h=>h) one_span (keep_span bot) (bot_no _) ?_ hx6.size ?_
                 ·omega
                 intro v7 w7 o7 g7 hat7;have g8:=hx6.app g7 ow6
                 have d7:=far_cell g7 (((Ext.refl _).alloc (.cells #[.int .i32 at_,.int .i32 (x.lo-1)] 30)).cell X1.out) hov)
    go_roundw;case rel=>exact⟨k+1,x.hi+1,out++[⟨at_,x.lo-1⟩],by omega,by go_num,rfl,by omega,by omega,by simp;omega,HK2.out,o7,g8⟩
    case measure=>simp[intOf];omega
   ·have t':decide (at_<x.lo)=false:=by simpa using t
    have HK2:Hid (notL l=out++notFrom (x.hi+1) (l.drop (k+1))):=hid (by rw[HK.out,HD.out,notFrom,if_neg t,List.nil_append]);go_wp2;go_roundw;case rel=>exact⟨k+1,x.hi+1,out,by omega,by go_num,rfl,by omega,by omega,by omega,HK2.out,ow.ext (keep_span bot) ex,hx.trans ex⟩
    case measure=>simp[intOf];omega
  ·have HK2:Hid (notL l=out++notFrom at_ []):=hid (by rw[HK.out,drop_end hlen.out hlt]);by_cases t:at_<=1114111
   ·have t':decide (at_<=1114111)=true:=by simpa using t
    have HK3:Hid (notL l=out++[⟨at_,1114111⟩]):=hid (by rw[HK2.out,notFrom,if_pos t]);have hx6:=hx.alloc (.cells #[.int .i32 at_,.int .i32 1114111] 30);have ow6:=ow.ext (keep_span bot) ((Ext.refl _).alloc (.cells #[.int .i32 at_,.int .i32 1114111] 30));have s6:=span_new wr ⟨at_,1114111⟩ 30 (by unfold i32;simp only[];omega) (by unfold i32;simp only[];omega)
    go_wp2_with (at_builtin
                 refine wpList_appS T_span (by omega) rfl (.tmp 31) (.tmp 34) rfl rfl ow6 rfl s6 (fun _ _ h=>h) one_span (keep_span bot) (bot_no _) ?_ hx6.size ?_
                 ·omega
                 intro v7 w7 o7 g7 hat7
                 have g8:=hx6.app g7 ow6)
    go_ret;exact⟨_,rfl,by rw[HK3.out];exact o7,g8⟩
   ·have t':decide (at_<=1114111)=false:=by simpa using t
    have HK3:Hid (notL l=out):=hid (by rw[HK2.out,notFrom,if_neg t,List.append_nil]);go_wp2;go_ret;exact⟨_,rfl,by rw[HK3.out];exact ow,hx⟩
end Go.Proofs.YthomjcjnalfipaaGreatDoor
namespace Go.Proofs.YthomjcjnalfipaaGreatDoor
open Go.RowKit
def vlen:Value->Nat
 | .slice _ n _=>n
 | _=>0
theorem meet_any (A:Option Addr) (n c:Nat) (a:List Sp) (B:Option Addr) (m d:Nat) (b:List Sp) (w:World) (hA:Spans w A n c a) (hB:Spans w B m d b) (ga:∀ x∈a,okSp x) (gb:∀ x∈b,okSp x) (hn:n<=1000) (hm:m<=1000) :
  Calls Tryz.prog 146 #[.slice A n c,.slice B m d] w fun e w'=>∃ v,e=.returned v/\OwnR rSpan 30 2 w.heap.size w' v (meetL a b)/\Ext w w':=by
 have HA:=hid hA;have HB:=hid hB;have GA:=hid ga;have GB:=hid gb;clear hA hB ga gb;go_enter Tryz.func146,Tryz.ntmps146;go_wp2
 go_loopw [0,1,5] (fun u v o wr=>∃ (A':Option Addr) (n' c':Nat) (a':List Sp) (B':Option Addr) (m' d':Nat) (b':List Sp) (out:List Sp),u=.slice A' n' c'/\v=.slice B' m' d'/\Spans w A' n' c' a'/\Spans w B' m' d' b'/\Hid (∀ x∈a',okSp x)/\Hid (∀ x∈b',okSp x) /\
   out.length+n'+m'<=2000/\Hid (meetL a b=out++meetL a' b')/\OwnR rSpan 30 2 w.heap.size wr o out/\Ext w wr) (fun u v _ _=>vlen u+vlen v)
 case atStart=>exact⟨A,n,c,a,B,m,d,b,[],rfl,rfl,HA.out,HB.out,GA.out,GB.out,by simp;omega,rfl,OwnR.nil _ _ _ _ _,Ext.refl _⟩
 case round=>
  obtain⟨A',n',c',a',B',m',d',b',out,rfl,rfl,hA,hB,ga,gb,hbd,HK,ow,hx⟩:=hrel;by_cases hn0:0<n'
  ·by_cases hm0:0<m'
   ·obtain⟨x,hxx⟩:=hA.idx hn0;obtain⟨y,hyy⟩:=hB.idx hm0;obtain⟨b1,o1,rfl,⟨_,hne1⟩,c1,c2,xb1,xb2⟩:=(hA.ext hx).span hxx;obtain⟨b2,o2,rfl,⟨_,hne2⟩,d1,d2,yb1,yb2⟩:=(hB.ext hx).span hyy;obtain⟨hx1,hx2,hx3⟩:=ga.out x (List.mem_of_getElem? hxx);obtain⟨hy1,hy2,hy3⟩:=gb.out y (List.mem_of_getElem? hyy);simp only[Nat.zero_mul,Nat.add_zero] at c1 c2 d1 d2;have ea:a'=x::a'.drop 1:=by have:=drop_cons hxx;simpa using this
    have eb:b'=y::b'.drop 1:=by have:=drop_cons hyy;simpa using this
    have HK2:Hid (meetL a b=out++((if max x.lo y.lo<=min x.hi y.hi then [⟨max x.lo y.lo,min x.hi y.hi⟩] else [])++(if x.hi<y.hi then meetL (a'.drop 1) b' else meetL a' (b'.drop 1)))):=hid (by
     rw[HK.out];congr 1
     conv=>lhs;rw[ea,eb]
     rw[meetL_cons,<- ea,<- eb])
    obtain⟨_,_,e1',_,k1,k2,_,_⟩:=hA.span hxx;cases e1';obtain⟨_,_,e2',_,k3,k4,_,_⟩:=hB.span hyy;cases e2';simp only[Nat.zero_mul,Nat.add_zero] at k2 k4;have K2:=hid k2;have K4:=hid k4;clear ea eb hxx hyy k1 k2 k3 k4;have hcA:=hA.cap;have hcB:=hB.cap;have hs1:=fun W=>run_cut_l T_span (some ⟨b1,o1,none⟩) n' c' 1 1 rfl (by omega) W;have hs2:=fun W=>run_cut_l T_span (some ⟨b2,o2,none⟩) m' d' 1 1 rfl (by omega) W;have hA2:=hA.drop (lo:=1) (by omega);have hB2:=hB.drop (lo:=1) (by omega);have ga2:Hid (∀ x∈a'.drop 1,okSp x):=hid fun x hx=>ga.out x (List.mem_of_mem_drop hx);have gb2:Hid (∀ x∈b'.drop 1,okSp x):=hid fun x hx=>gb.out x (List.mem_of_mem_drop hx);go_wp2_with fail;go_quiet (fail)
    (try rw[show max x.lo y.lo=(if x.lo<y.lo then y.lo else x.lo) by split <;> omega]);(try rw[show min x.hi y.hi=(if y.hi<x.hi then y.hi else x.hi) by split <;> omega]);generalize hlo:(if x.lo<y.lo then y.lo else x.lo)=lo
    generalize hhi:(if y.hi<x.hi then y.hi else x.hi)=hi;have elo:max x.lo y.lo=lo:=by rw[<- hlo];split <;> omega
    have ehi:min x.hi y.hi=hi:=by rw[<- hhi];split <;> omega
    rw[elo,ehi] at HK2;have blo:i32 lo:=by unfold i32;omega
    have bhi:i32 hi:=by unfold i32;omega
    clear hlo hhi elo ehi c1 c2 d1 d2;generalize hw5:wr.drewN _=w5;have e5:Ext wr w5:=by rw[<- hw5];exact (Ext.refl _).drewN _
    clear hw5;have ex5:=hx.trans e5;have ow5:=ow.ext (keep_span bot) e5;by_cases t1:lo<=hi
    ·have t1':decide (lo<=hi)=true:=by simpa using t1
     rw[if_pos t1] at HK2;have hx6:=ex5.alloc (.cells #[.int .i32 lo,.int .i32 hi] 30);have ow6:=ow5.ext (keep_span bot) ((Ext.refl _).alloc (.cells #[.int .i32 lo,.int .i32 hi] 30));have s6:=span_new w5 ⟨lo,hi⟩ 30 blo bhi;by_cases t2:x.hi<y.hi
     ·have t2':decide (x.hi<y.hi)=true:=by simpa using t2
      rw[if_pos t2] at HK2
      go_upto_region 6 with (first
       | (at_builtin
          refine wpList_appS T_span (by omega) rfl (.tmp 37) (.tmp 41) rfl rfl ow6 rfl s6 (fun _ _ h=>h) one_span (keep_span bot) (bot_no _) ?_ hx6.size ?_
          ·omega
          intro v7 w7 o7 g7 hat7;have g8:=hx6.app g7 ow6
          have c2:=g8.cell K2.out;have d2:=g8.cell K4.out))
      go_quiet (fail);go_wp2;go_roundw;case rel=>exact⟨_,n'-1,c'-1,a'.drop 1,_,m',d',b',out++[⟨lo,hi⟩],rfl,rfl,hA2,hB,ga2,gb,by simp;omega,hid (by rw[HK2.out,List.append_assoc]),o7.ext (keep_span bot) ((Ext.refl _).drewN _),g8.drewN _⟩
      case measure=>simp[vlen];omega
     ·have t2':decide (x.hi<y.hi)=false:=by simpa using t2
      rw[if_neg t2] at HK2
      go_upto_region 6 with (first
       | (at_builtin
          refine wpList_appS T_span (by omega) rfl (.tmp 37) (.tmp 41) rfl rfl ow6 rfl s6 (fun _ _ h=>h) one_span (keep_span bot) (bot_no _) ?_ hx6.size ?_
          ·omega
          intro v7 w7 o7 g7 hat7;have g8:=hx6.app g7 ow6
          have c2:=g8.cell K2.out;have d2:=g8.cell K4.out))
      go_quiet (fail);go_wp2;go_roundw;case rel=>exact⟨_,n',c',a',_,m'-1,d'-1,b'.drop 1,out++[⟨lo,hi⟩],rfl,rfl,hA,hB2,ga,gb2,by simp;omega,hid (by rw[HK2.out,List.append_assoc]),o7.ext (keep_span bot) ((Ext.refl _).drewN _),g8.drewN _⟩
      case measure=>simp[vlen];omega
    ·have t1':decide (lo<=hi)=false:=by simpa using t1
     rw[if_neg t1,List.nil_append] at HK2;have c2:=ex5.cell K2.out;have d2:=ex5.cell K4.out;by_cases t2:x.hi<y.hi
     ·have t2':decide (x.hi<y.hi)=true:=by simpa using t2
      rw[if_pos t2] at HK2;go_upto_region 6 with fail;go_quiet (fail);go_wp2;go_roundw;case rel=>exact⟨_,n'-1,c'-1,a'.drop 1,_,m',d',b',out,rfl,rfl,hA2,hB,ga2,gb,by omega,hid HK2.out,ow5.ext (keep_span bot) ((Ext.refl _).drewN _),ex5.drewN _⟩
      case measure=>simp[vlen];omega
     ·have t2':decide (x.hi<y.hi)=false:=by simpa using t2
      rw[if_neg t2] at HK2;go_upto_region 6 with fail;go_quiet (fail);go_wp2;go_roundw;case rel=>exact⟨_,n',c',a',_,m'-1,d'-1,b'.drop 1,out,rfl,rfl,hA,hB2,ga,gb2,by omega,hid HK2.out,ow5.ext (keep_span bot) ((Ext.refl _).drewN _),ex5.drewN _⟩
      case measure=>simp[vlen];omega
   ·have hb:b'=[]:=List.eq_nil_of_length_eq_zero (by rw[hB.len];omega);have HK2:Hid (meetL a b=out):=hid (by rw[HK.out,hb,meetL_nil',List.append_nil]);have t0:m'=0:=by omega
    subst t0;go_wp2;go_ret;exact⟨_,rfl,by rw[HK2.out];exact ow,hx⟩
  ·have ha:a'=[]:=List.eq_nil_of_length_eq_zero (by rw[hA.len];omega);have HK2:Hid (meetL a b=out):=hid (by rw[HK.out,ha,meetL_nil,List.append_nil]);have t0:n'=0:=by omega
   subst t0;go_wp2;go_ret;exact⟨_,rfl,by rw[HK2.out];exact ow,hx⟩
end Go.Proofs.YthomjcjnalfipaaGreatDoor
namespace Go.Proofs.YthomjcjnalfipaaGreatDoor
open Go.RowKit Go.Shelf Go.Lib Go.Sort
def cmpI (a b:Int):Int:=if a<b then -1 else if b<a then 1 else 0
theorem isNaN_any (x:Int) (w:World):Calls Tryz.prog 97 #[.int .i32 x] w fun e w'=>e=.returned (.bool false)/\w=w':=by
 go_enter Tryz.func97,Tryz.ntmps97;go_wp2;go_ret;exact⟨by simp,rfl⟩
theorem Compare_any (x y:Int) (w:World):Calls Tryz.prog 61 #[.int .i32 x,.int .i32 y] w fun e w'=>e=.returned (.int .i64 (cmpI x y))/\w=w':=by
 have HC:=hid (fun x W=>isNaN_any x W);by_cases h1:x<y
 ·have b1:decide (x<y)=true:=by simpa using h1
  have H:Hid (cmpI x y= -1):=hid (by unfold cmpI;rw[if_pos h1]);clear h1;go_enter Tryz.func61,Tryz.ntmps61;go_wp2_with (go_at_call 97;refine (HC.out _ _).mono ?_;rintro e w' ⟨rfl,rfl⟩);go_ret;rw[H.out];exact⟨rfl,rfl⟩
 ·have b1:decide (x<y)=false:=by simpa using h1
  by_cases h2:y<x
  ·have b2:decide (y<x)=true:=by simpa using h2
   have H:Hid (cmpI x y=1):=hid (by unfold cmpI;rw[if_neg h1,if_pos h2]);clear h1 h2;go_enter Tryz.func61,Tryz.ntmps61;go_wp2_with (go_at_call 97;refine (HC.out _ _).mono ?_;rintro e w' ⟨rfl,rfl⟩);go_ret;rw[H.out];exact⟨rfl,rfl⟩
  ·have b2:decide (y<x)=false:=by simpa using h2
   have H:Hid (cmpI x y=0):=hid (by unfold cmpI;rw[if_neg h1,if_neg h2]);clear h1 h2;go_enter Tryz.func61,Tryz.ntmps61;go_wp2_with (go_at_call 97;refine (HC.out _ _).mono ?_;rintro e w' ⟨rfl,rfl⟩);go_ret;rw[H.out];exact⟨rfl,rfl⟩
def encSp (x:Sp):List Value:=[.int .i32 x.lo,.int .i32 x.hi]
theorem ofLess_any (x y:Sp) (W:World):Calls Tryz.prog 60 #[.agg #[.int .i32 x.lo,.int .i32 x.hi],.agg #[.int .i32 y.lo,.int .i32 y.hi]] W fun e w'=>e=.returned (.int .i64 (cmpI x.lo y.lo))/\∃ q os',w'=grow (W.drewN q) os':=by
 have hcon:=hid (fun W'=>Compare_any x.lo y.lo W');generalize cmpI x.lo y.lo=r at *;go_enter Tryz.func60,Tryz.ntmps60;go_wp2_with (go_at_call 61;refine (hcon.out _).mono ?_;rintro e w' ⟨rfl,rfl⟩);go_ret;exact⟨rfl,0,_,by rw[alloc_eq_grow,alloc_eq_grow,grow_grow];rfl⟩
theorem ltSp (x y:Sp):ltOf (fun x y:Sp=>cmpI x.lo y.lo) x y=decide (x.lo<y.lo):=by
 unfold ltOf cmpI;by_cases h1:x.lo<y.lo
 ·simp[h1]
 ·by_cases h2:y.lo<x.lo <;> simp[h1,h2]
theorem swoSp:SWO (ltOf fun x y:Sp=>cmpI x.lo y.lo) where
 irrefl x:=by rw[ltSp];simp
 trans x y z h1 h2:=by rw[ltSp] at *;simp at *;omega
 ntrans x y z h1 h2:=by rw[ltSp] at *;simp at *;omega
theorem grown_sort (enc:Sp->List Value) (k:Nat) (w:World) (blk off n:Nat) (d:Array Sp) (os:Array Obj):w.grownBy (sortWorldK enc k w blk off n d os) (some blk):=by
 unfold sortWorldK putRowK putRow mapBlock grow Sort.ahead;refine⟨rfl,rfl,rfl,?_,fun b hb hne=>?_⟩
 ·simp
 ·simp only[];rw[Array.getElem?_append_left (by simpa using hb),Array.getElem?_modify,if_neg (fun e=>hne (by rw[e]))]
theorem SortSp_any (g n c:Nat) (l:List Sp) (w a:World) {ok:Nat->Prop} (h:SlR rSpan 2 ok w (some ⟨g,0,none⟩) n c l) (hf:∀ i,w.frozen? ⟨g,i,none⟩=false) (hlt:g<w.heap.size) (ha:Ext a w) (hg:a.heap.size<=g) (hn:n<4611686018427387904) :
  Calls Tryz.prog 59 #[.slice (some ⟨g,0,none⟩) n c,.func (.func 60) #[] #[]] w
   fun e w'=>e=.returned (.tuple #[])/\(∃ s:List Sp,s.Perm l/\s.Pairwise (fun a b=>a.lo<=b.lo)/\Spans w' (some ⟨g,0,none⟩) n c s)/\Ext a w':=by
 have hsz:l.toArray.size=n:=by simpa using h.len
 have hcell:∀ i x,l[i]? =some x->w.cell? ⟨g,i*2,none⟩=some (.int .i32 x.lo)/\w.cell? ⟨g,i*2+1,none⟩=some (.int .i32 x.hi)/\i32 x.lo/\i32 x.hi:=fun i x hx=>by
  obtain⟨b,off,vs,e,_,_,⟨rfl,k1,k2⟩,hc⟩:=h.at_ i x hx;cases e;have h0:=hc 0 _ rfl;have h1:=hc 1 _ rfl;simp only[Nat.zero_add,Nat.add_zero] at h0 h1;exact⟨h0,h1,k1,k2⟩
 have hH:HoldsK encSp 2 w g 0 l.toArray:=by
  intro j hj;rw[size_flatK,hsz] at hj;refine⟨?_,hf _⟩;rw[get_flatK _ _ _ _ (by rw[hsz];exact hj),Nat.zero_add];have hjn:j / 2<n:=by omega
  obtain⟨x,hx⟩:=h.idx hjn;have e1:l.toArray[j / 2]! =x:=by simp[hx]
  rw[e1];obtain⟨h0,h1,_⟩:=hcell _ x hx;rcases Nat.mod_two_eq_zero_or_one j with e | e
  ·rw[e,show j=j / 2*2 by omega];simpa [encSp] using h0
  ·rw[e];conv=>lhs;rw[show j=j / 2*2+1 by omega]
   simpa [encSp] using h1
 have eg:∀ args w,(callFunc 60 args).run Tryz.prog w=.ok (.enter 60 args) w:=enters Tryz.func60 (by kernel_rfl) rfl
 have hcon:=AnyQ.slices_SortFunc sortSp 2 Tryz.isAgg30 Tryz.sizeOf30 encSp (fun _=>rfl) (fun x v hv=>by simp[encSp] at hv;rcases hv with rfl | rfl <;> rfl) (fun x y=>cmpI x.lo y.lo) swoSp 60 #[] g 0 c l.toArray w eg
  (fun _ _ _ _ x y=>ofLess_any x y _) hH hlt (by rw[hsz];exact hn)
 rw[hsz] at hcon;refine hcon.mono ?_;rintro e w' ⟨he,d',q,os,hp,hs,rfl⟩;obtain⟨p1,_,p3⟩:=hp;rw[hsz] at p1
 have hperm:d'.toList.Perm l:=by
  have e1:(d'.extract 0 n).toList=d'.toList:=by rw[show n=d'.size from p1.symm];simp
  have e2:(l.toArray.extract 0 n).toList=l:=by rw[show n=l.toArray.size from hsz.symm];simp
  rw[e1,e2] at p3;exact p3
 have hH':HoldsK encSp 2 (sortWorldK encSp 2 w g 0 q d' os) g 0 d':=by
  unfold sortWorldK;refine holdsK_grow _ _ _ os g 0 d' ?_ (holdsK_putRowK _ _ (Sort.ahead w q) g 0 l.toArray d' (holdsK_ahead _ _ w q g 0 _ hH) (by rw[p1,hsz]));unfold putRowK putRow mapBlock Sort.ahead;simpa using hlt
 refine⟨he,⟨d'.toList,hperm,?_,by simpa using p1,h.cap,h.max,fun i x hx=>?_⟩,ha.grown (grown_sort _ _ _ _ _ _ _ _) (fun k hk=>by cases hk;exact hg)⟩
 ·rw[List.pairwise_iff_getElem];intro i j hi hj hij;have:=hs i j (Nat.zero_le _) hij (by simpa [p1] using hj);rw[ltSp] at this;have e1:d'[i]! =d'.toList[i]:=by rw[getElem!_pos d' i (by simpa using hi)];rfl
  have e2:d'[j]! =d'.toList[j]:=by rw[getElem!_pos d' j (by simpa using hj)];rfl
  rw[e1,e2] at this;simpa using this
 ·have hi:i<d'.size:=by have:=lt_of_get hx;simpa using this
  have hxm:=hperm.mem_iff.1 (List.mem_of_getElem? hx);obtain⟨i0,hi0⟩:=List.getElem?_of_mem hxm;obtain⟨_,_,b1,b2⟩:=hcell i0 x hi0
  have e1:d'[i]! =x:=by
   obtain⟨hil,hxe⟩:=List.getElem?_eq_some_iff.1 hx;rw[getElem!_pos d' i hi,<- hxe];rfl
  refine⟨g,0,encSp x,rfl,trivial,rfl,⟨rfl,b1,b2⟩,fun j u hu=>?_⟩;have hj:j<2:=by have:=lt_of_get hu;simpa [encSp] using this
  have:=(HoldsK.cell hH' hi hj).1;rw[e1] at this;rw[this];rw[List.getElem!_eq_getElem?_getD,hu];rfl
theorem insNone_any (fv:Value) (w:World):Calls Tryz.prog 124 #[.slice none 0 0,.int .i64 0,.int .i64 0,fv] w fun e w'=>e=.returned (.tuple #[])/\w=w':=by
 go_enter Tryz.func124,Tryz.ntmps124;go_wp2;go_loop [8] (fun i=>i=.int .i64 1) (fun _=>0);case atStart=>rfl
 case round=>
  obtain rfl:=hrel;go_wp2;go_end0;exact⟨rfl,rfl⟩
theorem pdqNone_any (x:Int) (fv:Value) (w:World):Calls Tryz.prog 95 #[.slice none 0 0,.int .i64 0,.int .i64 0,.int .i64 x,fv] w fun e w'=>e=.returned (.tuple #[])/\w=w':=by
 go_enter Tryz.func95,Tryz.ntmps95;go_wp2;refine wp_loop_rounds 1 ?_;rw[rounds_succ];go_wp2_with (go_at_call 124;refine (insNone_any _ _).mono ?_;rintro e w' ⟨rfl,rfl⟩);exact bodyPost_ret (v:=.tuple #[]) (by simp[results,Tryz.results95,go_sem]) rfl ⟨rfl,rfl⟩
theorem sortNone_any (fv:Value) (w:World):Calls Tryz.prog 59 #[.slice none 0 0,fv] w fun e w'=>e=.returned (.tuple #[])/\w=w':=by
 have hl:Hid (∀ W,Calls Tryz.prog 96 #[.int .u64 0] W fun e w'=>e=.returned (.int .i64 (Lib.bitLen 0:Nat))/\w'=W):=hid fun W=>
  Any.bits_Len (SlLaysF0.n15.bits (P:=Tryz.prog) (ρ:=sortSp_ren) { sortSp with }) 0 W (by omega) (by omega)
 go_enter Tryz.func59,Tryz.ntmps59
 go_wp2_with (first
  | (go_at_call 96;refine (hl.out _).mono ?_;rintro e w' ⟨rfl,rfl⟩)
  | (go_at_call 95;refine (pdqNone_any _ _ _).mono ?_;rintro e w' ⟨rfl,rfl⟩))
 go_end0;exact⟨rfl,rfl⟩
theorem SortOwn_any {e:TypeId} {base:Nat} {v:Value} {l:List Sp} (w a:World) (h:OwnR rSpan e 2 base w v l) (ha:Ext a w) (hb:a.heap.size<=base) (hn:l.length<4611686018427387904) :
  Calls Tryz.prog 59 #[v,.func (.func 60) #[] #[]] w
   fun e w'=>e=.returned (.tuple #[])/\(∃ (s:List Sp) (A:Option Addr) (c:Nat),s.Perm l/\s.Pairwise (fun a b=>a.lo<=b.lo)/\v=.slice A l.length c/\Spans w' A l.length c s)/\Ext a w':=by
 obtain⟨A,c,rfl,hs⟩:=h.sl;obtain⟨xs,⟨_,⟨hv,hl⟩ | ⟨g,cap,cur,hv,hg,hh,_⟩⟩,_⟩:=h
 ·simp only[Value.slice.injEq] at hv;obtain⟨rfl,_,rfl⟩:=hv;have:l=[]:=List.eq_nil_of_length_eq_zero hl;subst this;refine (sortNone_any _ _).mono ?_;rintro e w' ⟨rfl,rfl⟩;exact⟨rfl,⟨[],none,0,List.Perm.refl _,by simp,rfl,SlR.nil _ _ _ _ _ _ (by unfold maxLen;omega)⟩,ha⟩
 ·simp only[Value.slice.injEq] at hv;obtain⟨rfl,_,rfl⟩:=hv;refine (SortSp_any g l.length c l w a hs (fun i=>frozen_of_row w _ i cur _ hh) ?_ ha (by omega) hn).mono ?_
  ·exact (Array.getElem?_eq_some_iff.1 hh).1
  ·rintro e w' ⟨rfl,⟨s,h1,h2,h3⟩,h4⟩;exact⟨rfl,⟨s,_,c,h1,h2,rfl,h3⟩,h4⟩
def ofS (l:List Sp):List Sp:=mergedL (l.mergeSort fun a b=>decide (a.lo<=b.lo))
theorem ofS_set {l:List Sp} (h:∀ x∈l,okSp x):IsSet l (ofS l):=by
 refine merged_set h (List.mergeSort_perm _ _) ?_;have:=List.pairwise_mergeSort (le:=fun a b:Sp=>decide (a.lo<=b.lo)) (fun a b c h1 h2=>by simp at *;omega) (fun a b=>by simp;omega) l;exact this.imp fun h=>by simpa using h
def ofE (l:List Sp):Int:=if l.any spBad then 3 else if 200<(ofS l).length then 5 else 0
def ofV (l:List Sp):List Sp:=if ofE l≠0 then [] else ofS l
theorem ofE_bad {l:List Sp} (h:l.any spBad=true):ofE l=3/\ofV l=[]:=by
 have:ofE l=3:=by unfold ofE;rw[if_pos h]
 exact⟨this,by unfold ofV;rw[if_pos (by rw[this];simp)]⟩
theorem ofE_big {l:List Sp} (h:l.any spBad=false) (hb:200<(ofS l).length):ofE l=5/\ofV l=[]:=by
 have:ofE l=5:=by unfold ofE;rw[if_neg (by simp[h]),if_pos hb]
 exact⟨this,by unfold ofV;rw[if_pos (by rw[this];simp)]⟩
theorem ofE_ok {l:List Sp} (h:l.any spBad=false) (hb:¬ 200<(ofS l).length):ofE l=0/\ofV l=ofS l:=by
 have:ofE l=0:=by unfold ofE;rw[if_neg (by simp[h]),if_neg hb]
 exact⟨this,by unfold ofV;rw[if_neg (by rw[this];simp)]⟩
theorem okAll {l:List Sp} (h:l.any spBad=false):∀ x∈l,okSp x:=fun x hx=>okSp_iff.1 (by
 rw[List.any_eq_false] at h;simpa using h x hx)
def SetF (base:Nat) (s:List Sp) (err:Int) (w':World) (e:Ending):Prop:=∃ A c,e=.returned (.tuple #[.slice A s.length c,.int .i64 err])/\SlR rSpan 2 (fun b=>base<=b) w' A s.length c s
theorem SetF.no {base:Nat} {s:List Sp} {err er:Int} {w':World} (h1:s=[]) (h2:err=er):SetF base s err w' (.returned (.tuple #[.slice none 0 0,.int .i64 er])):=by
 subst h1 h2;exact⟨none,0,rfl,SlR.nil _ _ _ _ _ _ (by unfold maxLen;omega)⟩
theorem OfF_any (A:Option Addr) (n c:Nat) (l:List Sp) (w:World) (h:Spans w A n c l) (hn:n*8<=140737488353280) :
  Calls Tryz.prog 29 #[.slice A n c] w fun e w'=>SetF w.heap.size (ofV l) (ofE l) w' e/\Ext w w':=by
 have hlen:=hid h.len;have hcap:=h.cap;have HCl:=hid (fun W (e:Ext w W)=>Clone_span one_span (keep_span bot) A n c l W (h.ext e) (by omega) (fun _ _ h=>h));go_enter Tryz.func29,Tryz.ntmps29;go_wp2;go_loopw [9] (fun i wr=>∃ k:Nat,k<=n/\i=.int .i64 k/\l.any spBad=(l.drop k).any spBad/\Ext w wr) (fun i _=>n-(intOf i).toNat);case atStart=>exact⟨0,by omega,rfl,rfl,Ext.refl _⟩
 case round=>
  obtain⟨k,hk,rfl,hkk,hx⟩:=hrel;have HK:=hid hkk;clear hkk;by_cases hlt:k<n
  ·obtain⟨x,hxx⟩:=h.idx hlt;obtain⟨b,off,rfl,⟨_,hne⟩,c1,c2,xb1,xb2⟩:=(h.ext hx).span hxx;have HD:=hid (drop_cons hxx);clear hxx;have ex:=hx.alloc (.cells #[.int .i32 x.lo,.int .i32 x.hi] 30);cases hb:spBad x
   ·have HK2:Hid (l.any spBad=(l.drop (k+1)).any spBad):=hid (by rw[HK.out,HD.out,List.any_cons,hb,Bool.false_or]);have hr:=spBad_no hb;have b1:decide (x.lo<0)=false:=by simp;omega
    have b2:decide (1114111<x.hi)=false:=by simp;omega
    have b3:decide (x.hi<x.lo)=false:=by simp;omega
    clear hb;go_wp2;go_roundw;case rel=>exact⟨k+1,by omega,by go_num,HK2.out,ex⟩
    case measure=>simp[intOf];omega
   ·obtain⟨hE,hV⟩:=ofE_bad (l:=l) (by rw[HK.out,HD.out,List.any_cons,hb,Bool.true_or]);have HE:=hid hE;have HV:=hid hV
    have hr:decide (x.lo<0)=true\/(decide (x.lo<0)=false/\decide (1114111<x.hi)=true)\/(decide (x.lo<0)=false/\decide (1114111<x.hi)=false/\decide (x.hi<x.lo)=true):=by
     have:=spBad_yes hb;by_cases a1:x.lo<0
     ·exact .inl (by simpa using a1)
     ·by_cases a2:1114111<x.hi
      ·exact .inr (.inl ⟨by simpa using a1,by simpa using a2⟩)
      ·exact .inr (.inr ⟨by simpa using a1,by simpa using a2,by simp;omega⟩)
    clear hb hE hV;rcases hr with b1 | ⟨b1,b2⟩ | ⟨b1,b2,b3⟩
    all_goals
     go_wp2;go_ret2;exact⟨SetF.no HV.out HE.out,ex⟩
  ·have hnb:l.any spBad=false:=by rw[HK.out,drop_end hlen.out hlt];rfl
   have hok:=okAll hnb;have HS:=hid (ofS_set hok);have HM:=hid (fun W A' c' s (hs:Spans W A' n c' s) (hp:∀ x∈s,okSp x)=>merged_any A' n c' s W hs (by omega) hp);have HOK:=hid hok;by_cases hbig:200<(ofS l).length
   ·obtain⟨hE,hV⟩:=ofE_big hnb hbig;have HE:=hid hE;have HV:=hid hV;clear hE hV hnb hok HK
    go_wp2_with (first
     | (go_at_call 58;refine (HCl.out _ hx).mono ?_;rintro e w1 ⟨v,rfl,ov,x1⟩)
     | (go_at_call 59;refine (SortOwn_any _ wr ov x1 (Nat.le_refl _) (by rw[hlen.out];omega)).mono ?_;rintro e w2 ⟨rfl,⟨s,A2,c2,hp,hso,rfl,hs⟩,x2⟩;rw[hlen.out] at hs ⊢)
     | (go_at_call 63;refine (HM.out _ A2 c2 s hs (fun x hx=>HOK.out x (hp.mem_iff.1 hx))).mono ?_;rintro e w3 ⟨v3,rfl,o3,x3⟩;rw[(merged_set HOK.out hp hso).uniq HS.out] at o3;obtain⟨A3,c3,rfl,s3⟩:=(o3.mono (hx.trans x2).size).sl;have e3:=(hx.trans x2).trans x3)
     | (go_at_call 62;refine (fit_big A3 _ c3 w3 hbig s3.cap s3.max).mono ?_;rintro e w' ⟨rfl,rfl⟩))
    go_ret2;exact⟨SetF.no HV.out HE.out,e3⟩
   ·obtain⟨hE,hV⟩:=ofE_ok hnb hbig;have HE:=hid hE;have HV:=hid hV;clear hE hV hnb hok HK
    go_wp2_with (first
     | (go_at_call 58;refine (HCl.out _ hx).mono ?_;rintro e w1 ⟨v,rfl,ov,x1⟩)
     | (go_at_call 59;refine (SortOwn_any _ wr ov x1 (Nat.le_refl _) (by rw[hlen.out];omega)).mono ?_;rintro e w2 ⟨rfl,⟨s,A2,c2,hp,hso,rfl,hs⟩,x2⟩;rw[hlen.out] at hs ⊢)
     | (go_at_call 63;refine (HM.out _ A2 c2 s hs (fun x hx=>HOK.out x (hp.mem_iff.1 hx))).mono ?_;rintro e w3 ⟨v3,rfl,o3,x3⟩;rw[(merged_set HOK.out hp hso).uniq HS.out] at o3;obtain⟨A3,c3,rfl,s3⟩:=(o3.mono (hx.trans x2).size).sl;have e3:=(hx.trans x2).trans x3)
     | (go_at_call 62;refine (fit_small A3 _ c3 w3 hbig).mono ?_;rintro e w' ⟨rfl,rfl⟩))
    go_ret2;exact⟨by rw[HE.out,HV.out];exact⟨A3,c3,rfl,s3⟩,e3⟩
end Go.Proofs.YthomjcjnalfipaaGreatDoor
