/- A part of the proofs of the Top laws. -/
import Derived.Deep.RegionHeld3
import Derived.Deep.Cut
import Derived.Deep.CutRange
import Derived.Deep.Quiet
import Derived.Test.YthomjcjnalfipaaGreatDoorRows
import Derived.ProofKit
import Derived.OpenShut
import Derived.ChangeOld
import Derived.Deep.Fields
import Derived.Test.YthomjcjnalfipaaGreatDoorYB25
import Derived.Test.YthomjcjnalfipaaGreatDoorYB27
set_option linter.all false
set_option maxRecDepth 100000
set_option maxHeartbeats 4000000
open Go.Lib (hid)
namespace Go.Proofs.YthomjcjnalfipaaGreatDoor
open Go.RowKit
theorem Buf.ext {So:Nat->Prop} {w w':World} {pb:Nat} {t:List Int} {a:Nat} (h:Buf So w pb t a) (e:Ext w w'):Buf So w' pb t a:=by
 obtain⟨ab,L,tz,hb,h1,h2,h3⟩:=h;exact⟨ab,L,tz,hb.ext e,h1,h2,h3⟩
theorem maLen_any {So:Nat->Prop} {w:World} {pb:Nat} {t:List Int} {a n:Nat} (h:Buf So w pb t a) (hn:t.length=n) :
  Calls Tryz.prog 102 #[.pointer (some ⟨pb,0,none⟩)] w fun e w'=>e=.returned (.int .i64 n)/\∃ k,w'=w.drewN k:=by
 obtain⟨ab,L,tz,hb,_,_,e⟩:=h;obtain⟨hl,hat⟩:=Buf.len (So:=So) hb e;refine (gLen_any hb).mono ?_;rintro _ _ ⟨rfl,k,rfl⟩;have h1:=hb.le;refine⟨?_,k,rfl⟩;have:L.length-(tz-a)=n:=by omega
 rw[this]
theorem maAll_any {So:Nat->Prop} (mb pb a0 n:Nat) (t:List Int) (at_:Int) (B:Option Addr) (m d:Nat) (l:List (List Sp)) (w:World) (hm:w.cell? ⟨mb,0,none⟩=some (.pointer (some ⟨pb,0,none⟩))) (hb:Buf So w pb t a0) (hn:t.length=n) (hl:Sets w B m d l) (hok:okSets l)
  (hmm:m<=60000) (hnn:n<=60000) :
  Calls Tryz.prog 98 #[.iface 168 (.pointer (some ⟨mb,0,none⟩)),.int .i64 at_,.slice B m d] w fun e w'=>e=.returned (.bool (allAt t at_ l))/\Ext w w':=by
 have hlen:=hid hn;have hlen2:=hid hl.len;have em:=fun k=>mach_len (w:=w.drewN k) (m:=mb) (pb:=pb) hm;have em0:=mach_len (w:=w) (m:=mb) (pb:=pb) hm;have HL:=hid (fun k=>maLen_any (Buf.ext hb ((Ext.refl w).drewN k)) hn);have HL0:=hid (maLen_any hb hn);by_cases h0:at_<0
 ·have H:=hid (allAt_neg (t:=t) (l:=l) h0);go_enter Tryz.func98,Tryz.ntmps98;go_wp2;go_ret;rw[H.out];exact⟨rfl,Ext.refl _⟩
 have h0':decide (at_<0)=false:=by simpa using h0
 by_cases h1:(n:Int)-(m:Int)<at_
 ·have H:=hid (allAt_far (t:=t) (l:=l) (a:=at_) (by rw[hlen.out,hlen2.out];exact h1));have h1':decide ((n:Int)-(m:Int)<at_)=true:=by simpa using h1
  go_enter Tryz.func98,Tryz.ntmps98;go_wp2_with (go_at_call 102;(first | refine (HL.out _).mono ?_ | refine HL0.out.mono ?_);rintro e w' ⟨rfl,k1,rfl⟩);go_ret;rw[H.out];first | exact⟨rfl,Ext.refl _⟩ | exact⟨rfl,(Ext.refl _).drewN _⟩
 have h1':decide ((n:Int)-(m:Int)<at_)=false:=by simpa using h1
 obtain⟨a,rfl⟩:=Int.eq_ofNat_of_zero_le (by omega:0<=at_);have HA:=hid (allAt_in (t:=t) (l:=l) (a:=a) (by omega) (by rw[hlen.out,hlen2.out];omega));have ham:a+m<=n:=by omega
 clear h1;go_enter Tryz.func98,Tryz.ntmps98;go_wp2_with (go_at_call 102;(first | refine (HL.out _).mono ?_ | refine HL0.out.mono ?_);rintro e w' ⟨rfl,k1,rfl⟩);go_loopw [22] (fun i wr=>∃ k:Nat,k<=m/\i=.int .i64 k/\zipHas l (t.drop a)=zipHas (l.drop k) (t.drop (a+k))/\Ext w wr) (fun i _=>m-(intOf i).toNat);case atStart=>first | exact⟨0,by omega,rfl,rfl,Ext.refl _⟩ | exact⟨0,by omega,rfl,rfl,(Ext.refl _).drewN _⟩
 case round=>
  obtain⟨k,hk,rfl,hkk,hx⟩:=hrel;have HK:=hid hkk;clear hkk;by_cases hlt:k<m
  ·obtain⟨S,hSS⟩:=hl.idx hlt;obtain⟨b,off,A',n',c',rfl,⟨_,hne⟩,hc,hsl⟩:=(hl.ext hx).sl hSS;obtain⟨x,hxx⟩:∃ x,t[a+k]? =some x:=⟨t[a+k]'(by omega),List.getElem?_eq_getElem _⟩
   have HR:=hid (gRune_any (Buf.ext hb hx) hxx);have er:=fun j=>mach_rune (w:=wr.drewN j) (m:=mb) (pb:=pb) (hx.cell hm);have er0:=mach_rune (w:=wr) (m:=mb) (pb:=pb) (hx.cell hm);have HH:=hid (fun W (e:Ext wr W)=>setsHas_any A' n' c' S x W (SlR.ext (keep_span top) hsl e) (hok S (List.mem_of_getElem? hSS)));have HZ:=hid (show zipHas (l.drop k) (t.drop (a+k))=(has S x&&zipHas (l.drop (k+1)) (t.drop (a+k+1))) by rw[drop_cons hSS,drop_cons hxx];rfl);clear hSS hxx;have hak:(a:Int)+(k:Int)=((a+k:Nat):Int):=by omega
   have HAK:=hid hak;clear hak;cases hh:has S x
   ·have H2:=hid hh;clear hh;go_wp2_with (first | (go_at_call 160;rw[HAK.out];refine HR.out.mono ?_;rintro e w2 ⟨rfl,hx2⟩;have hc2:=hx2.cell hc) | (go_at_call 14;refine (HH.out _ hx2).mono ?_;rintro e w1 ⟨rfl,hx1⟩;rw[H2.out]));go_ret;rw[HA.out,Int.toNat_natCast,HK.out,HZ.out,H2.out,Bool.false_and];exact⟨rfl,(hx.trans hx2).trans hx1⟩
   ·have H2:=hid hh;clear hh;go_wp2_with (first | (go_at_call 160;rw[HAK.out];refine HR.out.mono ?_;rintro e w2 ⟨rfl,hx2⟩;have hc2:=hx2.cell hc) | (go_at_call 14;refine (HH.out _ hx2).mono ?_;rintro e w1 ⟨rfl,hx1⟩;rw[H2.out]));go_roundw;case rel=>exact⟨k+1,by omega,by go_num,by rw[HK.out,HZ.out,H2.out,Bool.true_and];rfl,(hx.trans hx2).trans hx1⟩
    case measure=>simp[intOf];omega
  ·go_wp2;go_ret;rw[HA.out,Int.toNat_natCast,HK.out,drop_end hlen2.out hlt];exact⟨rfl,hx⟩
theorem maLen_quiet {So:Nat->Prop} {w:World} {pb:Nat} {t:List Int} {a n:Nat} (h:Buf So w pb t a) (hn:t.length=n) (j:Nat) :
  Calls Tryz.prog 102 #[.pointer (some ⟨pb,0,none⟩)] (w.drewN j) fun e w'=>e=.returned (.int .i64 n)/\∃ k,w'=w.drewN k:=by
 refine (maLen_any (Buf.ext h ((Ext.refl w).drewN j)) hn).mono ?_;rintro _ _ ⟨rfl,k,rfl⟩;exact⟨rfl,j+k,by simp only[World.drewN];congr 1;omega⟩
section
variable (s f : Bool) (A1 : Option Addr) (n1 c1 : Nat) (A2 : Option Addr) (n2 c2 : Nat) (A3 : Option Addr) (n3 c3 : Nat) (A4 : Option Addr) (n4 c4 : Nat) (q : Int) (r : Rule) (w : World)
theorem maHere_any {So:Nat->Prop} (mb pb a0 n:Nat) (t:List Int) (b off a:Nat) (hm:w.cell? ⟨mb,0,none⟩=some (.pointer (some ⟨pb,0,none⟩))) (hb:Buf So w pb t a0) (hnt:t.length=n) (hn:n<=4000) (ha:a<=n)
  (hv:RuleV w s f A1 n1 c1 A2 n2 c2 A3 n3 c3 A4 n4 c4 q r) (hr:RuleAt w b off s f A1 n1 c1 A2 n2 c2 A3 n3 c3 A4 n4 c4 q) (hok:OkRule r) :
  Calls Tryz.prog 66 #[.pointer (some ⟨b,off,none⟩),.iface 168 (.pointer (some ⟨mb,0,none⟩)),.int .i64 a] w fun e w'=>e=.returned (.bool (here r t a))/\Ext w w':=by
 have hl1:=hok.lb;have hl2:=hok.ls;have hl3:=hok.la;rw[hv.before.len] at hl1;rw[hv.source.len] at hl2;rw[hv.after.len] at hl3
 have HH:Hid (here r t a=(allAt t a r.source&&allAt t ((a:Int)-n1) r.before&&allAt t ((a:Int)+n2) r.after&& !(s&&decide ((a:Int)≠n1))&& !(f&&decide ((a:Int)+n2+n3≠n)))):=by
  show _=_;unfold here;rw[hv.before.len,hv.source.len,hv.after.len,hv.start,hv.fin,hnt]
 have C1:=hid (fun W (e:Ext w W)=>maAll_any (So:=So) mb pb a0 n t (a:Int) A2 n2 c2 r.source W (e.cell hm) (Buf.ext hb e) hnt (hv.source.ext e) hok.s (by omega) (by omega));have C2:=hid (fun W (e:Ext w W)=>maAll_any (So:=So) mb pb a0 n t ((a:Int)-n1) A1 n1 c1 r.before W (e.cell hm) (Buf.ext hb e) hnt (hv.before.ext e) hok.b (by omega) (by omega));have C3:=hid (fun W (e:Ext w W)=>maAll_any (So:=So) mb pb a0 n t ((a:Int)+n2) A3 n3 c3 r.after W (e.cell hm) (Buf.ext hb e) hnt (hv.after.ext e) hok.a (by omega) (by omega));have em:=fun W (e:Ext w W)=>mach_len (w:=W) (m:=mb) (pb:=pb) (e.cell hm);have hb0:=hb;have hm0:=hm;clear hv hok;generalize allAt t a r.source=x1 at *;generalize allAt t ((a:Int)-n1) r.before=x2 at *;generalize allAt t ((a:Int)+n2) r.after=x3 at *;obtain⟨r0,r1,r2,r3,r4,_,_⟩:=hr;go_enter Tryz.func66,Tryz.ntmps66;go_wp2_with fail;refine (C1.out _ (Ext.refl _)).mono ?_;rintro e w1 ⟨rfl,hx1⟩;have r01:=hx1.cell r0;have r11:=hx1.cell r1;have r21:=hx1.cell r2;have r31:=hx1.cell r3;have r41:=hx1.cell r4;cases x1
 ·go_wp2;go_ret;rw[HH.out];exact⟨by simp,hx1⟩
 go_wp2_with fail;go_still_tail 12,(by kernel_rfl)
 change wpList _ _ _ _ _ w1.drew;go_wp2_with fail;have hw:IntKind.i64.wrap ((a:Int)-n1)=(a:Int)-n1:=IntWalk.i64_in _ (by omega)
 try rw[hw]
 clear hw;refine (C2.out _ hx1.drew).mono ?_;rintro e w2 ⟨rfl,hx2⟩;have hx2':=hx1.drew.trans hx2;have r02:=hx2'.cell r0;have r12:=hx2'.cell r1;have r22:=hx2'.cell r2;have r32:=hx2'.cell r3;have r42:=hx2'.cell r4;cases x2
 ·go_wp2;go_ret;rw[HH.out];exact⟨by simp,hx2'⟩
 go_wp2_with fail;refine (C3.out _ hx2').mono ?_;rintro e w3 ⟨rfl,hx3⟩;have hx3':=hx2'.trans hx3;have r03:=hx3'.cell r0;have r13:=hx3'.cell r1;have r23:=hx3'.cell r2;have r33:=hx3'.cell r3;have r43:=hx3'.cell r4;cases x3
 ·go_wp2;go_ret;rw[HH.out];exact⟨by simp,hx3'⟩
 have HH2:Hid (here r t a=(!(s&&decide ((a:Int)≠n1))&& !(f&&decide ((a:Int)+n2+n3≠n)))):=by
  show _=_;rw[HH.out];simp
 clear HH hx1 hx2 hx3 C1 C2 C3;by_cases t1:s=true/\(a:Int)≠n1
 ·obtain⟨rfl,t1⟩:=t1;have t1':((a:Int) != (n1:Int))=true:=by simpa using t1
  go_wp2;go_ret;rw[HH2.out];exact⟨by simp[t1],hx3'⟩
 have HH3:Hid (here r t a= !(f&&decide ((a:Int)+n2+n3≠n))):=by
  show _=_;rw[HH2.out]
  have:(s&&decide ((a:Int)≠n1))=false:=by
   rw[Bool.eq_false_iff];intro hh;simp only[Bool.and_eq_true,decide_eq_true_eq] at hh;exact t1 hh
  rw[this];simp
 clear HH2
 have t1':s=true->((a:Int) != (n1:Int))=false:=fun hs=>by
  rw[bne_eq_false_iff_eq];exact Decidable.byContradiction fun hh=>t1 ⟨hs,hh⟩
 clear t1;cases f
 ·cases s
  ·go_wp2;go_quiet (fail);go_wp2;go_ret;rw[HH3.out];exact⟨by simp,hx3'.drewN _⟩
  ·have t1'':=t1' rfl;clear t1';go_wp2;go_quiet (fail);go_wp2;go_ret;rw[HH3.out];exact⟨by simp,hx3'.drewN _⟩
 ·have em1:=fun k=>em _ (hx3'.drewN k);have em0:=em _ hx3';have HQ:=hid (fun k=>maLen_quiet (Buf.ext hb hx3') hnt k);have hw1:IntKind.i64.wrap ((a:Int)+n2+n3)=(a:Int)+n2+n3:=IntWalk.i64_in _ (by omega);by_cases t2:(a:Int)+n2+n3=n
  ·have t2':((a:Int)+n2+n3 != (n:Int))=false:=by rw[bne_eq_false_iff_eq];exact t2
   have HT:=hid t2;clear t2;cases s
   ·go_wp2;go_quiet ((go_at_call 102;exact HQ.out _));clear hw1;go_wp2;go_ret;rw[HH3.out];exact⟨by simp[HT.out],hx3'.drewN _⟩
   ·have t1'':=t1' rfl;clear t1';go_wp2;go_quiet ((go_at_call 102;exact HQ.out _));clear hw1;go_wp2;go_ret;rw[HH3.out];exact⟨by simp[HT.out],hx3'.drewN _⟩
  ·have t2':((a:Int)+n2+n3 != (n:Int))=true:=by rw[bne_iff_ne];exact t2
   have HT:=hid t2;clear t2;cases s
   ·go_wp2;go_quiet ((go_at_call 102;exact HQ.out _));clear hw1;go_wp2;go_ret;rw[HH3.out];exact⟨by simp[HT.out],hx3'.drewN _⟩
   ·have t1'':=t1' rfl;clear t1';go_wp2;go_quiet ((go_at_call 102;exact HQ.out _));clear hw1;go_wp2;go_ret;rw[HH3.out];exact⟨by simp[HT.out],hx3'.drewN _⟩
end
structure MaV (W:World) (b:Nat) (P:Option Addr) (A1:Option Addr) (n1 c1:Nat) (A2:Option Addr) (n2 c2:Nat) (q:Int) (A3:Option Addr) (n3 c3:Nat) (s:Int) (p:Int):Prop where
 h0:W.cell? ⟨b,0,none⟩=some (.pointer P)
 h1:W.cell? ⟨b,1,none⟩=some (.slice A1 n1 c1)
 h2:W.cell? ⟨b,2,none⟩=some (.slice A2 n2 c2)
 h3:W.cell? ⟨b,3,none⟩=some (.int .i64 q)
 h4:W.cell? ⟨b,4,none⟩=some (.slice A3 n3 c3)
 h5:W.cell? ⟨b,5,none⟩=some (.int .i64 s)
 h6:W.cell? ⟨b,6,none⟩=some (.int .i64 p)
 fz:∀ i,W.frozen? ⟨b,i,none⟩=false
 lt:b<W.heap.size/\b≠W.heap.size
section
variable {W W' w : World} {b b' : Nat} {P : Option Addr} {A1 : Option Addr} {n1 c1 : Nat} {A2 : Option Addr} {n2 c2 : Nat} {q : Int} {A3 : Option Addr} {n3 c3 : Nat} {s : Int} {p : Int}
theorem MaV.keep (h:MaV W b P A1 n1 c1 A2 n2 c2 q A3 n3 c3 s p) (hb:W'.heap[b]? =W.heap[b]?) (hs:W.heap.size<=W'.heap.size):MaV W' b P A1 n1 c1 A2 n2 c2 q A3 n3 c3 s p:=
 ⟨(World.cell?_of_block hb).trans h.h0,(World.cell?_of_block hb).trans h.h1,(World.cell?_of_block hb).trans h.h2,(World.cell?_of_block hb).trans h.h3,(World.cell?_of_block hb).trans h.h4,(World.cell?_of_block hb).trans h.h5,(World.cell?_of_block hb).trans h.h6,fun i=>by have:=h.fz i;simp only[World.frozen?] at this ⊢;rw[hb];exact this,by have:=h.lt;omega⟩
theorem MaV.ext (h:MaV W b P A1 n1 c1 A2 n2 c2 q A3 n3 c3 s p) (e:Ext W W'):MaV W' b P A1 n1 c1 A2 n2 c2 q A3 n3 c3 s p:=h.keep (e.block h.lt.1) e.size
theorem MaV.set4 (h:MaV W b P A1 n1 c1 A2 n2 c2 q A3 n3 c3 s p) (AX:Option Addr) (nX cX:Nat):MaV (W.setCell ⟨b,4,none⟩ (.slice AX nX cX)) b P A1 n1 c1 A2 n2 c2 q AX nX cX s p:=
 ⟨set_other h.h0 (by omega),set_other h.h1 (by omega),set_other h.h2 (by omega),set_other h.h3 (by omega),set_same h.h4,set_other h.h5 (by omega),set_other h.h6 (by omega),fun i=>by rw[World.frozen?_setCell];exact h.fz i,by rw[size_set];exact h.lt⟩
theorem MaV.set5 (h:MaV W b P A1 n1 c1 A2 n2 c2 q A3 n3 c3 s p) (X:Int):MaV (W.setCell ⟨b,5,none⟩ (.int .i64 X)) b P A1 n1 c1 A2 n2 c2 q A3 n3 c3 X p:=
 ⟨set_other h.h0 (by omega),set_other h.h1 (by omega),set_other h.h2 (by omega),set_other h.h3 (by omega),set_other h.h4 (by omega),set_same h.h5,set_other h.h6 (by omega),fun i=>by rw[World.frozen?_setCell];exact h.fz i,by rw[size_set];exact h.lt⟩
theorem MaV.set6 (h:MaV W b P A1 n1 c1 A2 n2 c2 q A3 n3 c3 s p) (X:Int):MaV (W.setCell ⟨b,6,none⟩ (.int .i64 X)) b P A1 n1 c1 A2 n2 c2 q A3 n3 c3 s X:=
 ⟨set_other h.h0 (by omega),set_other h.h1 (by omega),set_other h.h2 (by omega),set_other h.h3 (by omega),set_other h.h4 (by omega),set_other h.h5 (by omega),set_same h.h6,fun i=>by rw[World.frozen?_setCell];exact h.fz i,by rw[size_set];exact h.lt⟩
theorem MaV.new (w:World) (P:Option Addr) (A1:Option Addr) (n1 c1:Nat) (A2:Option Addr) (n2 c2:Nat) (q:Int) (A3:Option Addr) (n3 c3:Nat) (s:Int) (p:Int) (t:TypeId):MaV (w.alloc (.cells #[.pointer P,.slice A1 n1 c1,.slice A2 n2 c2,.int .i64 q,.slice A3 n3 c3,.int .i64 s,.int .i64 p] t)) w.heap.size P A1 n1 c1 A2 n2 c2 q A3 n3 c3 s p:=by
 constructor <;> first | exact cell_new _ _ _ _ _ rfl | simp
end
def hiAt (l:List Hd) (i:Nat):Int:=((l[i]?).map (·.hi)).getD 0
theorem hiAt_of {l:List Hd} {i:Nat} {h:Hd} (e:l[i]? =some h):hiAt l i=h.hi:=by unfold hiAt;rw[e];rfl
theorem Tile.ge {P:Int->List Int}:∀ {out:List Hd} {a b:Int},Tile P a out b->∀ {j:Nat} {g:Hd},out[j]? =some g->a<=g.hi
 | [],a,b,_,j,g,h=>by simp at h
 | x::t,a,b,ht,j,g,h=>by
  obtain⟨p1,p2,p3,p4⟩:=ht
  cases j with
  | zero=>simp at h;subst h;exact p2
  | succ j=>have:=Tile.ge p4 (j:=j) (g:=g) (by simpa using h);omega
theorem Tile.rise {P:Int->List Int}:∀ {out:List Hd} {a b:Int},Tile P a out b->∀ {j k:Nat} {g h:Hd},j<=k->out[j]? =some g->out[k]? =some h->g.hi<=h.hi
 | [],a,b,_,j,k,g,h,_,hg,_=>by simp at hg
 | x::t,a,b,ht,j,k,g,h,hjk,hg,hh=>by
  obtain⟨p1,p2,p3,p4⟩:=ht
  cases k with
  | zero=>
   obtain rfl:j=0:=by omega
   rw[hg] at hh;cases hh;omega
  | succ k=>
   cases j with
   | zero=>
    simp at hg;subst hg;have:=Tile.ge p4 (j:=k) (g:=h) (by simpa using hh);omega
   | succ j=>exact Tile.rise p4 (j:=j) (k:=k) (by omega) (by simpa using hg) (by simpa using hh)
theorem firstEdges_ge {l:List Rule} (hok:∀ r∈l,OkRule r):∀ z∈firstEdges l,0<=z:=by
 intro z hz;unfold firstEdges at hz;rw[List.mem_flatMap] at hz;obtain⟨r,hr,hz⟩:=hz;unfold spEdges at hz;rw[List.mem_flatMap] at hz;obtain⟨y,hy,hz⟩:=hz;have ok:=hok r hr
 cases hS:r.source with
 | nil=>rw[hS] at hy;cases hy
 | cons S R=>
  rw[hS] at hy;have G:=good_of (ok.s S (by rw[hS];simp));have:=G.rng y hy;simp only[List.mem_cons,List.not_mem_nil,or_false] at hz;rcases hz with rfl | rfl <;> omega
theorem heads_at {l:List Rule} (hok:∀ r∈l,OkRule r) {x:Int} (h0:0<=x) (h1:x<=1114111) :
  ∃ (i:Nat) (h:Hd),(headsF l)[i]? =some h/\h.rules=rulesAt 0 l x/\∀ (n j:Nat),(headsF l).length=n->Found (fun j=>decide (x<=hiAt (headsF l) j)) n j->j=i:=by
 obtain⟨b,hb,ht⟩:=headsF_tile (firstEdges_ge hok);obtain⟨i,h,q1,q2,q3,q4,q5⟩:=ht.at h0 (by omega:x<b);refine⟨i,h,q1,q4,fun n j hn hf=>?_⟩;have hin:i<n:=by rw[<- hn];exact lt_of_get q1
 obtain⟨f1,f2,f3⟩:=hf;rcases Nat.lt_trichotomy j i with hj | hj | hj
 ·exfalso;obtain⟨g,hg⟩:∃ g,(headsF l)[j]? =some g:=⟨_,List.getElem?_eq_getElem (by omega)⟩
  have h3:=f3 (by omega);simp only[hiAt_of hg,decide_eq_true_eq] at h3;have:=q5 j g hj hg;omega
 ·exact hj
 ·exfalso;obtain⟨g,hg⟩:∃ g,(headsF l)[j-1]? =some g:=⟨_,List.getElem?_eq_getElem (by omega)⟩
  have h2:=f2 (by omega);simp only[hiAt_of hg,decide_eq_false_iff_not] at h2;have:=ht.rise (j:=i) (k:=j-1) (by omega) q1 hg;omega
theorem rulesAt_idx {e:Int}:∀ {l:List Rule} {k:Nat} {x:Int},x∈rulesAt k l e->∃ (i:Nat) (r:Rule),l[i]? =some r/\x=((k+i:Nat):Int)
 | [],k,x,h=>by cases h
 | q::l,k,x,h=>by
  unfold rulesAt at h
  have key:x∈rulesAt (k+1) l e->∃ (i:Nat) (r:Rule),(q::l)[i]? =some r/\x=((k+i:Nat):Int):=fun h=>by
   obtain⟨i,r,h1,h2⟩:=rulesAt_idx h;exact⟨i+1,r,by simpa using h1,by rw[h2];congr 1;omega⟩
  split at h
  ·rcases List.mem_cons.1 h with rfl | h
   ·exact⟨0,q,rfl,rfl⟩
   ·exact key h
  ·exact key h
theorem pick_cons {p:Rule->Bool} {l:List Rule} {ks:List Int} {i:Nat} {r:Rule} (h:l[i]? =some r):pick p l ((i:Int)::ks)=if p r then (i:Int) else pick p l ks:=by
 show (if p (l.getD (i:Int).toNat default) then (i:Int) else pick p l ks)=_;rw[Int.toNat_natCast,List.getD_eq_getElem?_getD,h];rfl
section
variable {So : Nat -> Prop} (mb pb a nt : Nat) (t : List Int) (A : Option Addr) (n c : Nat) (l : List Rule) (B : Option Addr) (h d : Nat) (q s p : Int) (A3 : Option Addr) (n3 c3 : Nat) (w : World)
theorem findAt_any (b1 rb:Nat) (x:Int) (i:Nat) (H:List Hd) (M:MaV w mb (some ⟨pb,0,none⟩) A n c B h d q A3 n3 c3 s p) (hH:Hds top w B h d H) (hi:i<h)
  (h0:w.cell? ⟨b1,0,none⟩=some (.pointer (some ⟨mb,0,none⟩))) (h1:w.cell? ⟨rb,0,none⟩=some (.int .i32 x)) :
  Calls Tryz.prog 161 #[.int .i64 i,.pointer (some ⟨b1,0,none⟩),.pointer (some ⟨rb,0,none⟩)] w
   fun e w'=>e=.returned (.bool (decide (x<=hiAt H i)))/\Ext w w':=by
 obtain⟨y,hy⟩:=hH.idx hi;obtain⟨b,off,A',n',c',rfl,⟨_,hne⟩,_,d0,d1,d2⟩:=hH.hd hy;have HE:=hid (hiAt_of hy);have m2:=M.h2;have hi':(i:Int)<(h:Int):=by omega
 clear hy M hH;go_enter Tryz.func161,Tryz.ntmps161;go_wp2;go_quiet (fail);go_wp2;go_ret;rw[HE.out];exact⟨rfl,(Ext.refl _).drewN _⟩
theorem mFind_any (M:MaV w mb (some ⟨pb,0,none⟩) A n c B h d q A3 n3 c3 s p) (Bf:Buf So w pb t a) (hnt:t.length=nt) (hn:nt<=4000) (ha:a<nt) (htr:t.all right=true)
  (R:Rules w A n c l) (hok:∀ r∈l,OkRule r) (hn2:n<=200) (hh4:h<=400) (H:Hds top w B h d (headsF l)) :
  Calls Tryz.prog 137 #[.pointer (some ⟨mb,0,none⟩)] w fun e w'=>e=.returned (.int .i64 (first l t a))/\Ext w w':=by
 obtain⟨x,hx⟩:∃ x,t[a]? =some x:=⟨_,List.getElem?_eq_getElem (by omega)⟩
 have hxr:0<=x/\x<=1114111:=by
  have:=List.all_eq_true.1 htr x (List.mem_of_getElem? hx);unfold right at this;simp only[Bool.and_eq_true,decide_eq_true_eq] at this;exact this.1
 obtain⟨i,hd,hi1,hi2,hi3⟩:=heads_at hok hxr.1 hxr.2;have HF:Hid (first l t a=pick (fun r=>here r t a) l (rulesAt 0 l x)):=hid (find_first (fun r hr=>by have:=(hok r hr).s0;intro e;rw[e] at this;simp at this) hx).symm;have hih:i<h:=by rw[<- H.len];exact lt_of_get hi1
 have OK:=hid hok;have hH3:=hid (hi3 h · H.len);have hmf:∀ (fn:Fn) (first cap:Array Value) (w:World),(Instr.makeFunc fn first cap).run Tryz.prog w=.ok (.func fn first cap) w:=fun _ _ _ _=>rfl;have eg:∀ args w,(callFunc 161 args).run Tryz.prog w=.ok (.enter 161 args) w:=enters Tryz.func161 (by kernel_rfl) rfl;have hHcap:=H.cap;have hHmax:=H.max;unfold maxLen at hHmax;have e1:=(Ext.refl w).alloc (.cells #[.pointer (some ⟨mb,0,none⟩)] 168);have k0:(w.alloc (.cells #[.pointer (some ⟨mb,0,none⟩)] 168)).cell? ⟨w.heap.size,0,none⟩=some (.pointer (some ⟨mb,0,none⟩)):=by simp
 have hs1:w.heap.size<(w.alloc (.cells #[.pointer (some ⟨mb,0,none⟩)] 168)).heap.size:=by simp
 have HX:=hid hx;have Bf1:=hid (Buf.ext Bf e1);have M1:=hid (M.ext e1);have H1:=hid (SlR.ext (fam_hd.keep top) H e1);have R1:=hid (R.ext e1);have E1:=hid e1;have hxb:=hid hxr;clear hx hi3 hok M Bf R H e1 htr hxr;go_enter Tryz.func137,Tryz.ntmps137;go_upto_region 1 with fail;generalize w.alloc (.cells #[.pointer (some ⟨mb,0,none⟩)] 168)=w1 at *;have K:=hid (fun W (e:Ext w1 W)=>show W.cell? ⟨w.heap.size,0,none⟩=some (.pointer (some ⟨mb,0,none⟩))/\W.cell? ⟨mb,0,none⟩=some (.pointer (some ⟨pb,0,none⟩)) from ⟨e.cell k0,e.cell M1.out.h0⟩)
 have HA:=hid (fun W (e:Ext w1 W)=>show Calls Tryz.prog 101 #[.pointer (some ⟨pb,0,none⟩)] W fun e w'=>e=.returned (.int .i64 a)/\w'=W from by
  obtain⟨ab,L,tz,hb,_,_,_⟩:=Buf.ext Bf1.out e
  exact gAt_any hb)
 have HR:=hid (fun W (e:Ext w1 W)=>gRune_any (Buf.ext Bf1.out e) HX.out);go_cut [3] from 7 to 16 (fun v wx=>∃ rb,v=.pointer (some ⟨rb,0,none⟩)/\wx.cell? ⟨rb,0,none⟩=some (.int .i32 x)/\Ext w1 wx)
 case first=>
  have d0:=(Ext.refl w1).drew;have d1:=((Ext.refl w1).alloc (.cells #[.int .i32 0] 21)).drew;have z0:=K.out _ d0;have hn1:w.heap.size≠w1.heap.size:=by omega
  have hn2:mb≠w1.heap.size:=by have:=M1.out.lt;omega
  have z1:=K.out _ d1
  go_region_held3 (fun w'=>w'.cell? ⟨w.heap.size,0,none⟩=some (.pointer (some ⟨mb,0,none⟩))/\w'.cell? ⟨mb,0,none⟩=some (.pointer (some ⟨pb,0,none⟩)))
   (first | exact z0 | exact z1 | exact z9 | (go_keep;done) | exact⟨(World.cell?_of_block (heap_setB hn1)).trans z9.1,(World.cell?_of_block (heap_setB hn2)).trans z9.2⟩)
   (first
    | (go_at_call 101;((with_reducible refine (HA.out _ d0).mono ?_);rintro e w8 ⟨rfl,rfl⟩))
    | (go_at_call 101;((with_reducible refine (HA.out _ d1).mono ?_);rintro e w8 ⟨rfl,rfl⟩))
    | (go_at_call 160;((with_reducible refine (HR.out _ d0).mono ?_);rintro e w9 ⟨rfl,x9⟩;have X9:=d0.trans x9;have z9:=K.out _ X9))
    | (go_at_call 160;((with_reducible refine (HR.out _ d1).mono ?_);rintro e w9 ⟨rfl,x9⟩;have X9:=d1.trans x9;have z9:=K.out _ X9;have v0:=x9.cell (show (w1.alloc (.cells #[.int .i32 0] 21)).drew.cell? ⟨w1.heap.size,0,none⟩=some (.int .i32 0) from cell_new w1 #[.int .i32 0] 21 0 _ rfl);have vz:=(((Wr.new w1 #[.int .i32 0] 21).ext (Ext.refl _).drew).ext x9).2)))
  all_goals
   go_wp2_with fail;go_meet
   case rel=>first
    | exact⟨w1.heap.size,rfl,set_same v0,ext_set X9 (Nat.le_refl _) _ _⟩
    | exact⟨w9.heap.size,rfl,cell_new w9 #[.int .i32 x] 21 0 _ rfl,X9.alloc _⟩
 case rest=>
  obtain⟨rb,rfl,hr,X1⟩:=hcut
  have hp:PredInt 161 #[.pointer (some ⟨w.heap.size,0,none⟩),.pointer (some ⟨rb,0,none⟩)] (fun j=>decide (x<=hiAt (headsF l) j)) h wc:=fun W i hW hi=>
   findAt_any mb pb A n c B h d q s p A3 n3 c3 W w.heap.size rb x i (headsF l) (M1.out.ext (X1.trans hW)) (SlR.ext (fam_hd.keep top) H1.out (X1.trans hW)) hi (K.out _ (X1.trans hW)).1 (hW.cell hr)
  have HC:=hid (Search_any h _ _ _ _ (by omega) eg hp);have c0:=(K.out _ X1).1;have c2:=(M1.out.ext X1).h2;clear hp k0 hs1;go_wp2_with (go_at_call 30;refine HC.out.mono ?_;rintro e w2 ⟨⟨i2,rfl,hf2⟩,hx2⟩;have hi2':=hH3.out i2 hf2;subst hi2';have X2:=X1.trans hx2;have d0:=(K.out _ X2).1;have d2:=(M1.out.ext X2).h2;obtain⟨bh,oh,Ar,nr,cr,rfl,⟨_,hnh⟩,hda,hc0,hc1,hc2⟩:=SlR.hd (SlR.ext (fam_hd.keep top) H1.out X2) hi1;have hih2:(i2:Int)<(h:Int):=(by omega);have hih3:=hih);have RS:=hid hda.rs;have hrl:=hid hda.rs.len;have hrm:=hda.rs.max;unfold maxLen at hrm;have hrc:=hda.rs.cap;have X2':=hid X2;have HI2:=hid hi2;clear hda hx2 hf2 c0 c2 hc0 hc1 hc2 d0 d2 HC hr hi2 hi1;go_loopw [33] (fun v wr=>∃ k:Nat,k<=nr/\v=.int .i64 k/\Hid (pick (fun r=>here r t a) l hd.rules=pick (fun r=>here r t a) l (hd.rules.drop k))/\Ext w2 wr) (fun v _=>nr-(intOf v).toNat);case atStart=>exact⟨0,by omega,rfl,hid rfl,Ext.refl _⟩
  case round=>
   obtain⟨k,hk,rfl,HK,hx⟩:=hrel;by_cases hlt:k<nr
   ·obtain⟨y,hy⟩:=RS.out.idx hlt;obtain⟨br,orr,rfl,⟨_,hnr⟩,hcr,_⟩:=(SlR.ext (keep_intO top) RS.out hx).int hy;obtain⟨j,r,hjr,hyj⟩:=rulesAt_idx (l:=l) (k:=0) (e:=x) (by rw[<- HI2.out];exact List.mem_of_getElem? hy);rw[Nat.zero_add] at hyj;subst hyj;have XW:=hid (X2'.out.trans hx);obtain⟨b',off',s',f',A1,n1,c1,A2,n2,c2,A4,n4,c4,A5,n5,c5,q',rfl,⟨hb0,hnb⟩,hv,r0,r1,r2,r3,r4,r5,r6⟩:=(R1.out.ext XW.out).rule hjr;have hjn:j<n:=by rw[<- R1.out.len];exact lt_of_get hjr
    have hjn':(j:Int)<(n:Int):=by omega
    have okr:=OK.out r (List.mem_of_getElem? hjr);have HP:=hid (pick_cons (p:=fun r=>here r t a) (ks:=hd.rules.drop (k+1)) hjr);have HD:=hid (drop_cons hy);have HHere:=fun W (e:Ext wr W)=>maHere_any s' f' A1 n1 c1 A2 n2 c2 A4 n4 c4 A5 n5 c5 q' r W mb pb a nt t b' (off'+j*7) a ((K.out _ (XW.out.trans e)).2) (Buf.ext Bf1.out (XW.out.trans e)) hnt hn (by omega) (hv.ext (e.agree top)) ⟨e.cell r0,e.cell r1,e.cell r2,e.cell r3,e.cell r4,e.cell r5,e.cell r6⟩ okr;have HHr:=hid HHere;have HAr:=hid (fun W (e:Ext wr W)=>(HA.out W (XW.out.trans e)).mono fun e w' h=>(⟨h.1,h.2▸Ext.refl _⟩:e=.returned (.int .i64 a)/\Ext W w'));have g0:=fun pF:Far wr=>(K.out _ (XW.out.trans pF.ext)).1;have g1:=fun pF:Far wr=>(M1.out.ext (XW.out.trans pF.ext)).h1;have g2:=fun pF:Far wr=>(K.out _ (XW.out.trans pF.ext)).2;clear hy hjr HHere hv r0 r1 r2 r3 r4 r5 r6 okr;cases hh:here r t a
    ·have HH:=hid hh;clear hh;go_wp2;refine wp_region_far (by kernel_rfl) (by kernel_rfl) ?_
     repeat (quiet_step (first
      | (go_at_call 101;refine Calls.far_of (HAr.out _ (Far.ext _)))
      | (go_at_call 66;refine Calls.far_of (HHr.out _ (Far.ext _)))))
     refine wpQuiet_nil ?_;intro w4 hw';obtain⟨pf,hw4⟩:=hw';have hx4:Ext wr w4:=by rw[hw4];exact pf.ext
     clear hw4 pf;rw[HH.out];go_wp2;go_roundw;case rel=>exact⟨k+1,by omega,by go_num,hid (by rw[HK.out,HD.out,HP.out,HH.out];rfl),hx.trans hx4⟩
     case measure=>simp[intOf];omega
    ·have HH:=hid hh;clear hh;go_wp2;refine wp_region_far (by kernel_rfl) (by kernel_rfl) ?_
     repeat (quiet_step (first
      | (go_at_call 101;refine Calls.far_of (HAr.out _ (Far.ext _)))
      | (go_at_call 66;refine Calls.far_of (HHr.out _ (Far.ext _)))))
     refine wpQuiet_nil ?_;intro w4 hw';obtain⟨pf,hw4⟩:=hw';have hx4:Ext wr w4:=by rw[hw4];exact pf.ext
     clear hw4 pf;rw[HH.out];go_wp2;go_ret;rw[HF.out,<- HI2.out,HK.out,HD.out,HP.out,HH.out];exact⟨rfl,(E1.out.trans XW.out).trans hx4⟩
   ·go_wp2;go_ret;rw[HF.out,<- HI2.out,HK.out,drop_end hrl.out hlt];exact⟨rfl,(E1.out.trans X2'.out).trans hx⟩
end
end Go.Proofs.YthomjcjnalfipaaGreatDoor
