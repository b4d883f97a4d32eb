/- A part of the proofs of the Top laws. -/
import Derived.Laws.RangeAny
import Derived.Test.YthomjcjnalfipaaGreatDoorRows
import Derived.ProofKit
import Derived.OpenShut
import Derived.ChangeOld
import Derived.Deep.Fields
import Derived.Test.YthomjcjnalfipaaGreatDoorYB18
set_option linter.all false
set_option maxRecDepth 100000
set_option maxHeartbeats 3200000
open Go.Lib (hid)
namespace Go.Proofs.YthomjcjnalfipaaGreatDoor
open Go.RowKit
def decodeN (s:ByteArray):Nat->Nat->List Int
 | 0,_=>[]
 | f+1,pos=>if pos<s.size then ((Utf8.decode s pos).1:Int)::decodeN s f (pos+(Utf8.decode s pos).2) else []
def decodeF (s:ByteArray):List Int:=decodeN s s.size 0
theorem decode_step (s:ByteArray) {pos:Nat} (h:pos<s.size):1<=(Utf8.decode s pos).2:=by
 by_cases ha:(s[pos]'h).toNat<128
 ·rw[decode_ascii s pos h ha];exact Nat.le_refl _
 ·exact (decode_high s pos h (by omega)).2
theorem decodeN_end (s:ByteArray) {f pos:Nat} (h:¬ pos<s.size):decodeN s f pos=[]:=by
 cases f with
 | zero=>rfl
 | succ f=>unfold decodeN;rw[if_neg h]
theorem decodeN_go (s:ByteArray) {f pos:Nat} (h:pos<s.size):decodeN s (f+1) pos=((Utf8.decode s pos).1:Int)::decodeN s f (pos+(Utf8.decode s pos).2):=by
 rw[decodeN,if_pos h]
theorem decodeN_len (s:ByteArray):∀ (f pos:Nat),(decodeN s f pos).length<=f
 | 0,_=>by simp[decodeN]
 | f+1,pos=>by
  unfold decodeN;split
  ·have:=decodeN_len s f (pos+(Utf8.decode s pos).2);simp;omega
  ·simp
theorem decodeF_len (s:ByteArray):(decodeF s).length<=s.size:=decodeN_len s _ _
theorem decodeN_nn (s:ByteArray):∀ (f pos:Nat),∀ r∈decodeN s f pos,0<=r
 | 0,_=>by simp[decodeN]
 | f+1,pos=>by
  unfold decodeN;split
  ·intro r hr;rcases List.mem_cons.1 hr with rfl | hr
   ·omega
   ·exact decodeN_nn s f _ r hr
  ·simp
theorem decodeF_nn (s:ByteArray):∀ r∈decodeF s,0<=r:=decodeN_nn s _ _
theorem rune_one1 (w:World) (x:Int) (e:TypeId) (h:i32 x):SlR rRune 1 top (w.alloc (.cells #[.int .i32 x] e)) (some ⟨w.heap.size,0,none⟩) 1 1 [x]:=
 SlR.fresh rfl (by unfold maxLen;omega) fun k u hu=>by
  match k,hu with
  | 0,hu=>cases hu;exact⟨[.int .i32 x],rfl,⟨rfl,h⟩,fun j v hv=>by match j,hv with | 0,hv=>simpa using hv⟩
def itSet (w:World) (g:Nat) (s:ByteArray) (pos:Nat):World:={ w with heap:=w.heap.setIfInBounds g (.stringIter s pos) }
section
variable {P : Program} {a w : World} {g pos : Nat} {s : ByteArray}
theorem run_next_at {pos':Nat} (hg:w.heap[g]? =some (.stringIter s pos)) (ty:TypeId) (h:pos<s.size) (hp:pos'=pos+(Utf8.decode s pos).2) :
  (Instr.next (.pointer (some ⟨g,0,none⟩)) true ty).run P w=.ok (.tuple #[.bool true,.int .i64 pos,.int .i32 (Utf8.decode s pos).1]) (itSet w g s pos'):=by
 subst hp;simp only[Instr.next,getObj,setObj,Sem.run_bind,Sem.run,hg,Result.andThen,h,if_true];simp[goInt,itSet]
theorem run_next_no (hg:w.heap[g]? =some (.stringIter s pos)) (ty:TypeId) (h:¬ pos<s.size) :
  (Instr.next (.pointer (some ⟨g,0,none⟩)) true ty).run P w=.ok (.tuple #[.bool false]) w:=by
 simp[Instr.next,getObj,Sem.run,hg,h]
theorem itSet_at (hg:g<w.heap.size) (p:Nat):(itSet w g s p).heap[g]? =some (.stringIter s p):=by simp[itSet,Array.getElem?_setIfInBounds,hg]
theorem itSet_off {b:Nat} (hb:b≠g) (p:Nat):(itSet w g s p).heap[b]? =w.heap[b]?:=by
 simp only[itSet,Array.getElem?_setIfInBounds];rw[if_neg (Ne.symm hb)]
theorem itSet_size (p:Nat):(itSet w g s p).heap.size=w.heap.size:=by simp[itSet]
theorem Ext.itSet (h:Ext a w) (hg:a.heap.size<=g) (p:Nat):Ext a (itSet w g s p):=by
 have h1:=Ext.below h;exact⟨h1.os,h1.tape,h1.output,by rw[itSet_size];exact h1.size,fun k hk=>by rw[itSet_off (by omega)];exact h1.block k hk⟩
def itPos (g:Nat) (w:World):Nat:=match w.heap[g]? with
 | some (.stringIter _ p)=>p
 | _=>0
theorem itPos_of (hg:w.heap[g]? =some (.stringIter s pos)):itPos g w=pos:=by unfold itPos;rw[hg]
end
theorem Decode_any (s:ByteArray) (w:World) (hs:s.size<=1048576) :
  Calls Tryz.prog 11 #[.string s] w fun e w'=>∃ v,e=.returned v/\OwnR rRune 21 1 w.heap.size w' v (decodeF s)/\Ext w w':=by
 obtain⟨T,hT⟩:∃ T,decodeF s=T:=⟨_,rfl⟩
 rw[hT];have HT0:Hid ([]++decodeN s s.size 0=T):=hid hT;have X0:Hid (Ext w (w.iter s 0)):=hid ((Ext.refl w).alloc _);have I0:Hid ((w.iter s 0).heap[w.heap.size]? =some (.stringIter s 0)):=hid (World.iter_heap w s 0);have O0:Hid (OwnR rRune 21 1 (w.heap.size+1) (w.iter s 0) (.slice none 0 0) []):=hid (OwnR.nil _ _ _ _ _);have B0:Hid (w.heap.size+1<=(w.iter s 0).heap.size):=hid (by simp[World.iter]);clear hT;go_enter Tryz.func11,Tryz.ntmps11;go_wp2;generalize hg:w.heap.size=g at *;have HGE:=hid hg;clear hg;generalize w.iter s 0=w0 at *;go_loopw [3] (fun v wr=>∃ (f pos:Nat) (l:List Int),Hid (l++decodeN s f pos=T)/\Hid (s.size<=f+pos)/\Hid (l.length<=pos)/\Hid (wr.heap[g]? =some (.stringIter s pos))/\Hid (Ext w wr)/\Hid (OwnR rRune 21 1 (g+1) wr v l)/\Hid (g+1<=wr.heap.size)) (fun _ wr=>s.size-itPos g wr);case atStart=>exact⟨s.size,0,[],HT0,hid (Nat.le_refl _),hid (Nat.le_refl _),I0,X0,O0,B0⟩
 case round=>
  clear HT0 X0 I0 O0 B0;obtain⟨f,pos,l,HT,HF,HL,I0,X0,O0,B0⟩:=hrel;have HA:=hid (itPos_of I0.out);by_cases hlt:pos<s.size
  ·obtain⟨f,rfl⟩:∃ f',f=f'+1:=⟨f-1,by have:=HF.out;omega⟩
   have hT:=HT.out;rw[decodeN_go s hlt] at hT;have hd:=decode_step s hlt;have hle:=decode_le s pos;obtain⟨d,hde⟩:∃ d,d=pos+(Utf8.decode s pos).2:=⟨_,rfl⟩
   have hnx:∀ ty,(Instr.next (.pointer (some ⟨g,0,none⟩)) true ty).run Tryz.prog wr=_:=fun ty=>run_next_at (P:=Tryz.prog) (pos':=d) I0.out ty hlt hde;rw[<- hde] at hT;generalize (Utf8.decode s pos).1=r at *;have hpd:pos+1<=d:=by omega
   have HG1:Hid (g≠wr.heap.size/\g<wr.heap.size):=hid (by have:=B0.out;omega);have I1:=hid (itSet_at (s:=s) (show g<wr.heap.size from HG1.out.2) d);have X1:=hid (X0.out.itSet (s:=s) (by rw[HGE.out];exact Nat.le_refl _) d);have O1:Hid (OwnR rRune 21 1 (g+1) (itSet wr g s d) _ l):=hid (O0.out.keep (keep_rune bot) (fun b hb=>hb.elim) (fun q hq=>itSet_off (by have:=(O0.out.lt q hq).1;omega) d));have B1:Hid (g+1<=(itSet wr g s d).heap.size):=hid (by rw[itSet_size];exact B0.out);generalize itSet wr g s d=w1 at *;have hi32:i32 (r:Int):=by unfold i32;omega
   have XA:=hid (X1.out.alloc (.cells #[.int .i32 r] 21));have OA:=hid (O1.out.ext (keep_rune bot) ((Ext.refl w1).alloc (.cells #[.int .i32 r] 21)));have SA:=hid (rune_one1 w1 (r:Int) 21 hi32);have BA:Hid (g+1<=(w1.alloc (.cells #[.int .i32 r] 21)).heap.size):=hid (by have:=B1.out;simp;omega);have IA:Hid ((w1.alloc (.cells #[.int .i32 r] 21)).heap[g]? =some (.stringIter s d)):=hid ((((Ext.refl w1).alloc (.cells #[.int .i32 r] 21)).block (by have:=B1.out;omega)).trans I1.out);have hll:l.length<=1048576:=by have:=HL.out;omega
   have HLD:Hid (l.length+1<=d):=hid (by have:=HL.out;omega);have HT:=hid hT;have HF2:Hid (s.size<=f+d):=hid (by have:=HF.out;omega);have HPD:Hid (pos<d):=hid (by omega);clear hT hde hd I0 X0 O0 B0 HF HL
   go_wp2_with (first
    | (at_builtin;refine wpList_app T_rune rfl (.tmp 11) (.tmp 13) rfl rfl OA.out rfl SA.out (fun _ _ h=>h) one_rune (keep_rune bot) (bot_no _) (by omega) (by unfold maxLen;omega) BA.out ?_;intro v2 w2 o2 g2 hat2;have O2:=hid o2;have X2:Hid (Ext w w2):=hid (XA.out.grown g2 (fun q hq=>by have h1:=(OA.out.lt q hq).1;have h2:=HGE.out;omega));have I2:Hid (w2.heap[g]? =some (.stringIter s d)):=hid ((g2.block g (by have:=BA.out;omega) (fun e=>by have:=(OA.out.lt g e.symm).1;omega)).trans IA.out);have B2:Hid (g+1<=w2.heap.size):=hid (Nat.le_trans BA.out g2.size);clear o2 g2 hat2))
   go_roundw;case rel=>exact⟨f,d,l++[(r:Int)],hid (by rw[List.append_assoc];exact HT.out),HF2,hid (by rw[List.length_append];exact HLD.out),I2,X2,O2,B2⟩
   case measure=>have e1:=HA.out;have e2:=itPos_of I2.out;have:=HPD.out;rw[e1,e2];omega
  ·have hT:=HT.out;rw[decodeN_end s hlt,List.append_nil] at hT;have hnx:∀ ty,(Instr.next (.pointer (some ⟨g,0,none⟩)) true ty).run Tryz.prog wr=_:=fun ty=>run_next_no (P:=Tryz.prog) I0.out ty hlt;subst hT;have OF:=hid (O0.out.mono (base':=w.heap.size) (by rw[HGE.out];omega));clear HT;go_wp2;go_ret;exact⟨_,rfl,OF.out,X0.out⟩
theorem itemsW0_ok {x:It} {l:List It} (h:itemW x=0):itemsW0 (x::l)=itemsW0 l:=by
 show (if itemW x≠0 then itemW x else itemsW0 l)=_;rw[if_neg (by simp[h])]
theorem itemsW0_bad {x:It} {l:List It} (h:itemW x≠0):itemsW0 (x::l)=itemW x:=by
 show (if itemW x≠0 then itemW x else itemsW0 l)=_;rw[if_pos h]
theorem itemsW_big {l:List It} {n:Nat} (hl:l.length=n) (h:20<n):itemsW l=5:=by unfold itemsW;rw[if_pos (by omega)]
theorem itemsW_small {l:List It} {n:Nat} (hl:l.length=n) (h:¬ 20<n):itemsW l=itemsW0 l:=by unfold itemsW;rw[if_neg (by omega)]
theorem rowsW_ok {x:List It} {l:List (List It)} (h:itemsW x=0):rowsW (x::l)=rowsW l:=by
 show (if itemsW x≠0 then itemsW x else rowsW l)=_;rw[if_neg (by simp[h])]
theorem rowsW_bad {x:List It} {l:List (List It)} (h:itemsW x≠0):rowsW (x::l)=itemsW x:=by
 show (if itemsW x≠0 then itemsW x else rowsW l)=_;rw[if_pos h]
theorem sideW_rows {s:Side} {m:Bool} (h:rowsW [s.before,s.source,s.after]≠0):sideW s m=rowsW [s.before,s.source,s.after]:=by unfold sideW;rw[if_pos h]
theorem sideW_rest {s:Side} {m:Bool} (h:rowsW [s.before,s.source,s.after]=0):sideW s m=if s.cursor< -1\/(s.source.length:Int)<s.cursor then 3 else if m=true/\s.source.length=0 then 6 else 0:=by
 unfold sideW;rw[if_neg (by simp[h])]
theorem item_any {ok:Nat->Prop} {w:World} {A:Option Addr} {n c:Nat} {x:It} (h:ItA ok w A n c x) :
  Calls Tryz.prog 151 #[.agg #[.int .i64 x.kind,.int .i32 x.rune,.slice A n c,.string x.name]] w fun e w'=>e=.returned (.int .i64 (itemW x))/\Ext w w':=by
 obtain⟨k,r,s,nm⟩:=x;have e1:=(Ext.refl w).alloc (.cells #[.int .i64 k,.int .i32 r,.slice A n c,.string nm] 193);obtain⟨V,hV⟩:∃ V,V=itemW ⟨k,r,s,nm⟩:=⟨_,rfl⟩
 rw[<- hV];unfold itemW at hV;dsimp only at hV ⊢;have CS:=hid (setsWrong_any A n c s _ (Spans.ext (h.set.mono (fun _ _ h=>h) (fun _ _=>trivial)) e1));have CN:=hid (fun W=>Named_any nm W);clear h;by_cases k1:k=1
 ·rw[if_pos k1] at hV;subst k1;cases hr:right r
  ·rw[hr] at hV;subst hV;have HR:=hid hr;clear hr;go_enter Tryz.func151,Tryz.ntmps151;go_wp2_with (go_at_call 55;((refine (Right_any _ _).mono ?_);rintro e w2 ⟨rfl,rfl⟩;rw[HR.out]));go_ret;exact⟨rfl,e1⟩
  ·rw[hr] at hV;subst hV;have HR:=hid hr;clear hr;go_enter Tryz.func151,Tryz.ntmps151;go_wp2_with (go_at_call 55;((refine (Right_any _ _).mono ?_);rintro e w2 ⟨rfl,rfl⟩;rw[HR.out]));go_ret;exact⟨rfl,e1⟩
 ·rw[if_neg k1] at hV;have n1:(k==1)=false:=by simpa using k1
  by_cases k2:k=2
  ·rw[if_pos k2] at hV;subst k2;rw[<- hV] at CS;clear hV;go_enter Tryz.func151,Tryz.ntmps151;go_wp2_with (go_at_call 50;((with_reducible refine CS.out.mono ?_);rintro e w2 ⟨rfl,x2⟩));go_ret;exact⟨rfl,e1.trans x2⟩
  ·rw[if_neg k2] at hV;have n2:(k==2)=false:=by simpa using k2
   by_cases k3:k=3
   ·rw[if_pos k3] at hV;subst k3;cases hb:namedB nm
    ·rw[hb] at hV CN;subst hV;clear hb;go_enter Tryz.func151,Tryz.ntmps151;go_wp2_with (go_at_call 117;((with_reducible refine (CN.out _).mono ?_);rintro e w2 ⟨rfl,rfl⟩));go_ret;exact⟨rfl,e1⟩
    ·rw[hb] at hV CN;subst hV;clear hb;go_enter Tryz.func151,Tryz.ntmps151;go_wp2_with (go_at_call 117;((with_reducible refine (CN.out _).mono ?_);rintro e w2 ⟨rfl,rfl⟩));go_ret;exact⟨rfl,e1⟩
   ·rw[if_neg k3] at hV;have n3:(k==3)=false:=by simpa using k3
    subst hV;go_enter Tryz.func151,Tryz.ntmps151;go_wp2;go_ret;exact⟨rfl,e1⟩
theorem keep_its:Keep (rIt top) top:=fam_it.keep top
theorem rows_new {w w':World} {A1 A2 A3:Option Addr} {n1 c1 n2 c2 n3 c3:Nat} {s:Side} (h:SdA top w A1 n1 c1 A2 n2 c2 A3 n3 c3 s) (hx:Ext w w') (t:TypeId) :
  SlR (rSl (rIt top) 4 top) 1 top (w'.alloc (.cells #[.slice A1 n1 c1,.slice A2 n2 c2,.slice A3 n3 c3] t)) (some ⟨w'.heap.size,0,none⟩) 3 3 [s.before,s.source,s.after]:=by
 have hy:=hx.alloc (.cells #[.slice A1 n1 c1,.slice A2 n2 c2,.slice A3 n3 c3] t);refine SlR.fresh rfl (by simp[maxLen]) fun k x hxx=>?_
 match k,hxx with
 | 0,hxx=>cases hxx;exact⟨[.slice A1 n1 c1],rfl,⟨A1,n1,c1,rfl,h.before.ext hy⟩,fun j u hu=>by match j,hu with | 0,hu=>simpa using hu⟩
 | 1,hxx=>cases hxx;exact⟨[.slice A2 n2 c2],rfl,⟨A2,n2,c2,rfl,h.source.ext hy⟩,fun j u hu=>by match j,hu with | 0,hu=>simpa using hu⟩
 | 2,hxx=>cases hxx;exact⟨[.slice A3 n3 c3],rfl,⟨A3,n3,c3,rfl,h.after.ext hy⟩,fun j u hu=>by match j,hu with | 0,hu=>simpa using hu⟩
theorem sideW_any {ok:Nat->Prop} {w:World} {A1 A2 A3:Option Addr} {n1 c1 n2 c2 n3 c3:Nat} {s:Side} (h0:SdA ok w A1 n1 c1 A2 n2 c2 A3 n3 c3 s) (must:Bool) :
  Calls Tryz.prog 119 #[.agg #[.bool s.st,.bool s.en,.slice A1 n1 c1,.slice A2 n2 c2,.slice A3 n3 c3,.int .i64 s.cursor],.bool must] w fun e w'=>e=.returned (.int .i64 (sideW s must))/\Ext w w':=by
 have h:SdA top w A1 n1 c1 A2 n2 c2 A3 n3 c3 s:=h0.mono fun _ _=>trivial;clear h0;have HSL:=hid h.source.len;have hsm:=h.source.max;unfold maxLen at hsm;have hsc:=h.source.cap;have hS:=rows_new h ((Ext.refl w).alloc (.cells #[.bool s.st,.bool s.en,.slice A1 n1 c1,.slice A2 n2 c2,.slice A3 n3 c3,.int .i64 s.cursor] 109)) 107;obtain⟨q,hq⟩:∃ q,q=s.cursor:=⟨_,rfl⟩
 obtain⟨V,hV⟩:∃ V,V=sideW s must:=⟨_,rfl⟩
 obtain⟨R,hR⟩:∃ R,R=[s.before,s.source,s.after]:=⟨_,rfl⟩
 have HV1:Hid (rowsW R≠0->V=rowsW R):=hid (fun hz=>by rw[hV,hR];exact sideW_rows (by rw[<- hR];exact hz));have HV2:Hid (rowsW R=0->V=if q< -1\/(n2:Int)<q then 3 else if must=true/\n2=0 then 6 else 0):=hid (fun hz=>by rw[hV,hq,<- HSL.out];exact sideW_rest (by rw[<- hR];exact hz));rw[<- hR,<- hq] at hS;rw[<- hV,<- hq];clear hV hq hR h;generalize s.st=st at *;generalize s.en=en at *;have hx2:Ext w ((w.alloc (.cells #[.bool st,.bool en,.slice A1 n1 c1,.slice A2 n2 c2,.slice A3 n3 c3,.int .i64 q] 109)).alloc (.cells #[.slice A1 n1 c1,.slice A2 n2 c2,.slice A3 n3 c3] 107)):=((Ext.refl _).alloc _).alloc _;have b3:((w.alloc (.cells #[.bool st,.bool en,.slice A1 n1 c1,.slice A2 n2 c2,.slice A3 n3 c3,.int .i64 q] 109)).alloc (.cells #[.slice A1 n1 c1,.slice A2 n2 c2,.slice A3 n3 c3] 107)).cell? ⟨w.heap.size,3,none⟩=some (.slice A2 n2 c2):=by simp
 have b5:((w.alloc (.cells #[.bool st,.bool en,.slice A1 n1 c1,.slice A2 n2 c2,.slice A3 n3 c3,.int .i64 q] 109)).alloc (.cells #[.slice A1 n1 c1,.slice A2 n2 c2,.slice A3 n3 c3] 107)).cell? ⟨w.heap.size,5,none⟩=some (.int .i64 q):=by simp
 simp only[World.size_alloc] at hS;go_enter Tryz.func119,Tryz.ntmps119;go_wp2;generalize (w.alloc (.cells #[.bool st,.bool en,.slice A1 n1 c1,.slice A2 n2 c2,.slice A3 n3 c3,.int .i64 q] 109)).alloc (.cells #[.slice A1 n1 c1,.slice A2 n2 c2,.slice A3 n3 c3] 107)=w2 at *;go_loopw [18] (fun i wr=>∃ k:Nat,k<=3/\i=.int .i64 k/\rowsW R=rowsW (R.drop k)/\Ext w2 wr) (fun i _=>3-(intOf i).toNat);case atStart=>exact⟨0,by omega,rfl,rfl,Ext.refl _⟩
 case round=>
  obtain⟨k,hk,rfl,hkk,hx⟩:=hrel;have HK:=hid hkk;clear hkk;by_cases hlt:k<3
  ·obtain⟨S,hSS⟩:=hS.idx hlt;obtain⟨bb,oo,A',n',c',hA,⟨_,hne⟩,hc,hsl⟩:=(hS.ext (keep_sl keep_its) hx).sl hSS;simp only[Option.some.injEq,Addr.mk.injEq,and_true] at hA;obtain⟨rfl,rfl⟩:=hA;simp only[Nat.zero_add] at hc;have HD:=hid (drop_cons hSS);clear hSS;have hm:=hsl.max;unfold maxLen at hm;have hcap:=hsl.cap;by_cases hbig:20<n'
   ·have e:V=5:=by
     have h5:=itemsW_big hsl.len hbig;have:rowsW R=5:=by rw[HK.out,HD.out,rowsW_bad (by rw[h5];omega),h5]
     rw[HV1.out (by rw[this];omega),this]
    have H:=hid e;clear e;go_wp2;go_ret;rw[H.out];exact⟨rfl,hx2.trans hx⟩
   ·have H5:=hid (itemsW_small hsl.len hbig);have hlen:=hid hsl.len;have hk3:decide ((k:Int)<3)=true:=by simp;omega
    obtain⟨wo,rfl⟩:∃ wo:World,wo=wr:=⟨_,rfl⟩
    go_wp2;go_loopw [27] (fun i wq=>∃ j:Nat,j<=n'/\i=.int .i64 j/\itemsW0 S=itemsW0 (S.drop j)/\Ext wo wq) (fun i _=>n'-(intOf i).toNat);case atStart=>exact⟨0,by omega,rfl,rfl,Ext.refl _⟩
    case round=>
     obtain⟨j,hj,rfl,hjj,hy⟩:=hrel;have HJ:=hid hjj;clear hjj;by_cases hlj:j<n'
     ·obtain⟨x,hTT⟩:=hsl.idx hlj;obtain⟨b2,o2,A4,n4,c4,rfl,⟨_,hne2⟩,hst,d0,d1,d2,d3⟩:=(hsl.ext keep_its hy).it hTT;have HD2:=hid (drop_cons hTT);clear hTT;have hz1:=(Ext.refl wr).alloc (.cells #[.int .i64 x.kind,.int .i32 x.rune,.slice A4 n4 c4,.string x.name] 193);have HC:=hid (item_any (hst.keep (hz1.agree top)));by_cases hz:itemW x=0
      ·have HZ:=hid hz;clear hz hst;go_wp2_with (go_at_call 151;refine HC.out.mono ?_;rintro e w1 ⟨rfl,hx1⟩;rw[HZ.out]);go_roundw;case rel=>exact⟨j+1,by omega,by go_num,by rw[HJ.out,HD2.out,itemsW0_ok HZ.out],hy.trans (hz1.trans hx1)⟩
       case measure=>simp[intOf];omega
      ·have e:V=itemW x:=by
        have h1:itemsW0 S=itemW x:=by rw[HJ.out,HD2.out,itemsW0_bad hz]
        have h2:itemsW S=itemW x:=by rw[H5.out,h1]
        have h3:rowsW R=itemW x:=by rw[HK.out,HD.out,rowsW_bad (by rw[h2];exact hz),h2]
        rw[HV1.out (by rw[h3];exact hz),h3]
       have H:=hid e;clear e;have hz':(itemW x != 0)=true:=by simpa using hz
       clear hst;go_wp2_with (go_at_call 151;refine HC.out.mono ?_;rintro e w1 ⟨rfl,hx1⟩);go_ret;rw[H.out];exact⟨rfl,hx2.trans (hx.trans (hy.trans (hz1.trans hx1)))⟩
     ·have hs0:itemsW0 S=0:=by rw[HJ.out,drop_end hlen.out hlj];rfl
      have HS0:=hid hs0;clear hs0;go_wp2;go_roundw;case rel=>exact⟨k+1,by omega,by go_num,by rw[HK.out,HD.out,rowsW_ok (by rw[H5.out,HS0.out])],hx.trans hy⟩
      case measure=>simp[intOf];omega
  ·have b3':=hx.cell b3;have b5':=hx.cell b5;have hs0:rowsW R=0:=by rw[HK.out,drop_end (n:=3) hS.len hlt];rfl
   have hV:=HV2.out hs0;have hxx:=hx2.trans hx;clear hs0 HK hS hx HV1 HV2;by_cases t1:q< -1
   ·rw[if_pos (.inl t1)] at hV;subst hV;go_wp2;go_ret;exact⟨rfl,hxx⟩
   ·by_cases t2:(n2:Int)<q
    ·rw[if_pos (.inr t2)] at hV;subst hV;go_wp2;go_ret;exact⟨rfl,hxx⟩
    ·rw[if_neg (by omega)] at hV;cases must
     ·rw[if_neg (by simp)] at hV;subst hV;go_wp2;go_ret;exact⟨rfl,hxx⟩
     ·by_cases t3:n2=0
      ·subst t3;rw[if_pos ⟨rfl,rfl⟩] at hV;subst hV;go_wp2;go_ret;exact⟨rfl,hxx⟩
      ·rw[if_neg (by simp[t3])] at hV;subst hV;go_wp2;go_ret;exact⟨rfl,hxx⟩
theorem T_set:ElemT Tryz.prog 59 23 1 24:=elemT Tryz.underlying59 (z:=.slice none 0 0) (by kernel_rfl) rfl (by omega)
theorem idxFrom_yes {α :Type} {p: α ->Bool} {k:Nat} {x: α} {l:List α} (h:p x=true):idxFrom p k (x::l)=k:=by simp[idxFrom,h]
theorem idxFrom_no {α :Type} {p: α ->Bool} {k:Nat} {x: α} {l:List α} (h:p x=false):idxFrom p k (x::l)=idxFrom p (k+1) l:=by simp[idxFrom,h]
def PredIt (g:FuncId) (caps:Array Value) (p:It->Bool) (w:World):Prop:=
 ∀ W A n c x,Ext w W->ItA top W A n c x->Calls Tryz.prog g (#[.agg #[.int .i64 x.kind,.int .i32 x.rune,.slice A n c,.string x.name]]++caps) W fun e w'=>e=.returned (.bool (p x))/\Ext W w'
theorem IndexIt_any (A:Option Addr) (n c:Nat) (l:List It) (w:World) (g:FuncId) (caps:Array Value) (p:It->Bool)
  (eg:∀ args w,(callFunc g args).run Tryz.prog w=.ok (.enter g args) w) (hp:PredIt g caps p w) (h:Its top w A n c l) :
  Calls Tryz.prog 167 #[.slice A n c,.func (.func g) #[] caps] w fun e w'=>e=.returned (.int .i64 (idxFrom p 0 l))/\Ext w w':=by
 have hm:=h.max;unfold maxLen at hm;have hcap:=h.cap;have hlen:=hid h.len;have HP:=hid hp;clear hp;go_enter Tryz.func167,Tryz.ntmps167;go_wp2;go_loopw [8] (fun i wr=>∃ k:Nat,k<=n/\i=.int .i64 k/\idxFrom p 0 l=idxFrom p k (l.drop k)/\Ext w wr) (fun i _=>n-(intOf i).toNat);case atStart=>exact⟨0,by omega,rfl,rfl,Ext.refl _⟩
 case round=>
  obtain⟨k,hk,rfl,hkk,hx⟩:=hrel;have HK:=hid hkk;clear hkk;by_cases hlt:k<n
  ·obtain⟨x,hxx⟩:=h.idx hlt;obtain⟨b,off,A',n',c',rfl,⟨_,hne⟩,hv,d0,d1,d2,d3⟩:=(h.ext hx).it hxx;have HC:=hid (HP.out wr A' n' c' x hx hv);have HD:=hid (drop_cons hxx);clear hxx hv;cases hr:p x
   ·have HR:=hid hr;clear hr;go_wp2_with fail;refine HC.out.mono ?_;rintro e w1 ⟨rfl,hx1⟩;rw[HR.out];go_wp2;go_roundw;case rel=>exact⟨k+1,by omega,by go_num,by rw[HK.out,HD.out,idxFrom_no HR.out],hx.trans hx1⟩
    case measure=>simp[intOf];omega
   ·have HR:=hid hr;clear hr;go_wp2_with fail;refine HC.out.mono ?_;rintro e w1 ⟨rfl,hx1⟩;rw[HR.out];go_wp2;go_ret;rw[HK.out,HD.out,idxFrom_yes HR.out];exact⟨rfl,hx.trans hx1⟩
  ·go_wp2;go_ret;rw[HK.out,drop_end hlen.out hlt];exact⟨rfl,hx⟩
theorem ContainsIt_any (A:Option Addr) (n c:Nat) (l:List It) (w:World) (g:FuncId) (caps:Array Value) (p:It->Bool)
  (eg:∀ args w,(callFunc g args).run Tryz.prog w=.ok (.enter g args) w) (hp:PredIt g caps p w) (h:Its top w A n c l) :
  Calls Tryz.prog 152 #[.slice A n c,.func (.func g) #[] caps] w fun e w'=>e=.returned (.bool (l.any p))/\Ext w w':=by
 have HC:=hid (IndexIt_any A n c l w g caps p eg hp h);have hg:=hid (idxFrom_geq p 0 l);clear eg hp h;generalize idxFrom p 0 l=z at *;go_enter Tryz.func152,Tryz.ntmps152;go_wp2_with (go_at_call 167;refine HC.out.mono ?_;rintro e w' ⟨rfl,hx⟩);go_ret;rw[<- hg.out];exact⟨rfl,hx⟩
theorem told1_any {w:World} {A:Option Addr} {n c:Nat} {x:It} :
  Calls Tryz.prog 153 #[.agg #[.int .i64 x.kind,.int .i32 x.rune,.slice A n c,.string x.name]] w fun e w'=>e=.returned (.bool (x.kind != 1))/\Ext w w':=by
 have e1:=(Ext.refl w).alloc (.cells #[.int .i64 x.kind,.int .i32 x.rune,.slice A n c,.string x.name] 193);go_enter Tryz.func153,Tryz.ntmps153;go_wp2;go_ret;exact⟨rfl,e1⟩
theorem toldB_any (s:Side):(!s.source.any fun x=>x.kind != 1)=toldB s:=by
 unfold toldB;rw[List.not_any_eq_all_not];congr 1;funext x;cases h:(x.kind==1) <;> simp_all
theorem told_any {ok:Nat->Prop} {w:World} {A1 A2 A3:Option Addr} {n1 c1 n2 c2 n3 c3:Nat} {s:Side} (h0:SdA ok w A1 n1 c1 A2 n2 c2 A3 n3 c3 s) :
  Calls Tryz.prog 120 #[.agg #[.bool s.st,.bool s.en,.slice A1 n1 c1,.slice A2 n2 c2,.slice A3 n3 c3,.int .i64 s.cursor]] w fun e w'=>e=.returned (.bool (toldB s))/\Ext w w':=by
 have eg:=enters Tryz.func153 (by kernel_rfl) rfl;have e1:=(Ext.refl w).alloc (.cells #[.bool s.st,.bool s.en,.slice A1 n1 c1,.slice A2 n2 c2,.slice A3 n3 c3,.int .i64 s.cursor] 109);have h:Its top w A2 n2 c2 s.source:=h0.source.mono fun _ _=>trivial;have HC:=hid (ContainsIt_any A2 n2 c2 s.source _ _ #[] (fun x=>x.kind != 1) eg (fun W A n c x e hx=>told1_any) (h.ext e1));have HT:=hid (toldB_any s);rw[<- HT.out];clear h h0 HT;generalize (s.source.any fun x=>x.kind != 1)=z at *;go_enter Tryz.func120,Tryz.ntmps120;go_wp2_with (go_at_call 152;refine HC.out.mono ?_;rintro e w' ⟨rfl,hx⟩);go_ret;exact⟨rfl,e1.trans hx⟩
theorem bare_any {w:World} {A1 A2 A3:Option Addr} {n1 c1 n2 c2 n3 c3:Nat} {s:Side} (h1:s.before.length=n1) (h3:s.after.length=n3) (b1:n1<=20) (b3:n3<=20) :
  Calls Tryz.prog 121 #[.agg #[.bool s.st,.bool s.en,.slice A1 n1 c1,.slice A2 n2 c2,.slice A3 n3 c3,.int .i64 s.cursor]] w fun e w'=>e=.returned (.bool (bareB s))/\Ext w w':=by
 have HB:Hid (bareB s=(!s.st&&(!s.en&&n1+n3==0))):=hid (by unfold bareB;rw[h1,h3]);rw[HB.out];have e1:=(Ext.refl w).alloc (.cells #[.bool s.st,.bool s.en,.slice A1 n1 c1,.slice A2 n2 c2,.slice A3 n3 c3,.int .i64 s.cursor] 109);have wn:IntKind.i64.wrap ((n1:Int)+(n3:Int))=((n1+n3:Nat):Int):=by rw[IntWalk.i64_in _ (by omega)];omega
 obtain⟨st,en,bf,sr,af,cu⟩:=s;dsimp only at *;clear HB h1 h3;generalize n1+n3=m at *;cases st
 ·cases en
  ·by_cases hm:m=0
   ·subst hm;go_enter Tryz.func121,Tryz.ntmps121;go_wp2;go_ret;exact⟨by simp,e1⟩
   ·have g1:(m==0)=false:=by simpa using hm
    have g2:((m:Int)==0)=false:=by simp;omega
    rw[g1];go_enter Tryz.func121,Tryz.ntmps121;go_wp2;go_ret;exact⟨by simp,e1⟩
  ·go_enter Tryz.func121,Tryz.ntmps121;go_wp2;go_ret;exact⟨by simp,e1⟩
 ·go_enter Tryz.func121,Tryz.ntmps121;go_wp2;go_ret;exact⟨by simp,e1⟩
def rStr:World->List Value->ByteArray->Prop:=fun _ vs x=>vs=[.string x]
theorem SlR.str {ok:Nat->Prop} {w:World} {A:Option Addr} {n c k:Nat} {l:List ByteArray} {x:ByteArray} (h:SlR rStr 1 ok w A n c l) (hx:l[k]? =some x) :
  ∃ b off,A=some ⟨b,off,none⟩/\(b<w.heap.size/\b≠w.heap.size)/\w.cell? ⟨b,off+k,none⟩=some (.string x):=by
 obtain⟨b,off,vs,e,ho,_,rfl,hc⟩:=h.at_ k x hx;have h0:=hc 0 _ rfl;have hlt:b<w.heap.size:=World.block_lt_of_cell? w _ h0;exact⟨b,off,e,⟨hlt,by omega⟩,by simpa using h0⟩
theorem bytes_toList_inj {s t:ByteArray} (h:s.data.toList=t.data.toList):s=t:=by
 cases s;cases t;simp at h;rw[h]
theorem str_ne {s t:ByteArray} (h:¬ s=t):(s.toList==t.toList)=false:=by
 rw[Lib.toList_data,Lib.toList_data];simpa using fun e=>h (bytes_toList_inj e)
theorem IndexS_any (A:Option Addr) (n c:Nat) (l:List ByteArray) (s:ByteArray) (w:World) (h:SlR rStr 1 top w A n c l) :
  Calls Tryz.prog 89 #[.slice A n c,.string s] w fun e w'=>e=.returned (.int .i64 (idxFrom (fun x=>decide (s=x)) 0 l))/\w'=w:=by
 have hm:=h.max;unfold maxLen at hm;have hcap:=h.cap;have hlen:=hid h.len;go_enter Tryz.func89,Tryz.ntmps89;go_wp2;go_loopw [8] (fun i wr=>∃ k:Nat,k<=n/\i=.int .i64 k/\Hid (idxFrom (fun x=>decide (s=x)) 0 l=idxFrom (fun x=>decide (s=x)) k (l.drop k))/\wr=w) (fun i _=>n-(intOf i).toNat);case atStart=>exact⟨0,by omega,rfl,rfl,by first | rfl | trivial⟩
 case round=>
  obtain⟨k,hk,rfl,HK,rfl⟩:=hrel;by_cases hlt:k<n
  ·obtain⟨x,hxx⟩:=h.idx hlt;obtain⟨b,off,rfl,_,hc⟩:=h.str hxx;have HD:=hid (drop_cons hxx);clear hxx;by_cases hr:s=x
   ·subst hr;have HR:Hid (idxFrom (fun x=>decide (s=x)) 0 l=k):=hid (by rw[HK.out,HD.out,idxFrom_yes (by simp)]);go_wp2;go_ret;exact⟨by rw[HR.out];rfl,rfl⟩
   ·have HR:Hid (idxFrom (fun x=>decide (s=x)) 0 l=idxFrom (fun x=>decide (s=x)) (k+1) (l.drop (k+1))):=hid (by rw[HK.out,HD.out,idxFrom_no (by simpa using hr)]);have gx:=str_ne hr;clear HK HD;go_wp2;go_roundw;case rel=>exact⟨k+1,by omega,by go_num,HR,by first | rfl | trivial⟩
    case measure=>simp[intOf];omega
  ·have HR:Hid (idxFrom (fun x=>decide (s=x)) 0 l= -1):=hid (by rw[HK.out,drop_end hlen.out hlt];rfl);go_wp2;go_ret;exact⟨by rw[HR.out];rfl,rfl⟩
theorem ContainsS_any (A:Option Addr) (n c:Nat) (l:List ByteArray) (s:ByteArray) (w:World) (h:SlR rStr 1 top w A n c l) :
  Calls Tryz.prog 51 #[.slice A n c,.string s] w fun e w'=>e=.returned (.bool (l.any fun x=>decide (s=x)))/\w'=w:=by
 have HC:=hid (IndexS_any A n c l s w h);have hg:=hid (idxFrom_geq (fun x=>decide (s=x)) 0 l);clear h;generalize idxFrom (fun x=>decide (s=x)) 0 l=z at *;go_enter Tryz.func51,Tryz.ntmps51;go_wp2_with (go_at_call 89;refine HC.out.mono ?_;rintro e w' ⟨rfl,rfl⟩);go_ret;rw[<- hg.out];exact⟨rfl,rfl⟩
def passS:List ByteArray:=[⟨#[108,111,119,101,114]⟩,⟨#[110,117,108,108]⟩,⟨#[114,101,109,111,118,101]⟩,⟨#[117,112,112,101,114]⟩]
theorem Passes_any (w:World):Calls Tryz.prog 52 #[] w fun e w'=>∃ A c,e=.returned (.slice A 4 c)/\SlR rStr 1 top w' A 4 c passS/\Ext w w':=by
 have e1:=(Ext.refl w).alloc (.cells #[.string ⟨#[108,111,119,101,114]⟩,.string ⟨#[110,117,108,108]⟩,.string ⟨#[114,101,109,111,118,101]⟩,.string ⟨#[117,112,112,101,114]⟩] 9)
 have hs:SlR rStr 1 top (w.alloc (.cells #[.string ⟨#[108,111,119,101,114]⟩,.string ⟨#[110,117,108,108]⟩,.string ⟨#[114,101,109,111,118,101]⟩,.string ⟨#[117,112,112,101,114]⟩] 9)) (some ⟨w.heap.size,0,none⟩) 4 4 passS:=
  SlR.fresh rfl (by unfold maxLen;omega) fun k u hu=>by
   match k,hu with
   | 0,hu=>cases hu;exact⟨[_],rfl,rfl,fun j v hv=>by match j,hv with | 0,hv=>simpa using hv⟩
   | 1,hu=>cases hu;exact⟨[_],rfl,rfl,fun j v hv=>by match j,hv with | 0,hv=>simpa using hv⟩
   | 2,hu=>cases hu;exact⟨[_],rfl,rfl,fun j v hv=>by match j,hv with | 0,hv=>simpa using hv⟩
   | 3,hu=>cases hu;exact⟨[_],rfl,rfl,fun j v hv=>by match j,hv with | 0,hv=>simpa using hv⟩
 have HS:=hid hs;clear hs;go_enter Tryz.func52,Tryz.ntmps52;go_wp2;go_ret;exact⟨_,_,rfl,HS.out,e1⟩
theorem isPass_any (s:ByteArray):(passS.any fun x=>decide (s=x))=isPass s:=by
 have key:∀ (l:List UInt8),(decide (s=⟨l.toArray⟩))=(s.data.toList==l):=fun l=>by
  by_cases h:s.data.toList=l
  ·subst h;simp
  ·have:¬ s=⟨l.toArray⟩:=fun e=>h (by rw[e]);rw[decide_eq_false this];simp[h]
 show (decide (s=⟨[108,111,119,101,114].toArray⟩)||(decide (s=⟨[110,117,108,108].toArray⟩)||(decide (s=⟨[114,101,109,111,118,101].toArray⟩)||(decide (s=⟨[117,112,112,101,114].toArray⟩)||false))))=_;rw[key,key,key,key];rfl
end Go.Proofs.YthomjcjnalfipaaGreatDoor
