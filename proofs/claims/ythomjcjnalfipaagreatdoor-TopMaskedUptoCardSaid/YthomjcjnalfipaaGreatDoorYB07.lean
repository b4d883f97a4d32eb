/- A part of the proofs of the Top laws. -/
import Derived.Shelf.SlSortCmp.WholeK
import Derived.Test.YthomjcjnalfipaaGreatDoorProg
import Derived.Shelf.SlSortCmp.Xorshift
import Derived.Shelf.SlSortCmp.BreakPatternsK
import Derived.Test.YthomjcjnalfipaaGreatDoorRows
import Derived.ProofKit
import Derived.OpenShut
import Derived.ChangeOld
import Derived.Deep.Fields
import Derived.Test.YthomjcjnalfipaaGreatDoorYB06
set_option linter.all false
set_option maxRecDepth 1000000
set_option maxHeartbeats 8000000
open Go.Lib (hid)
namespace Go.Proofs.YthomjcjnalfipaaGreatDoor
open Go.RowKit Go.Sort
theorem SE.box {w0 W:World} {b off:Nat} {L0 D:List Int} (h:SE .i32 w0 b off L0 i32 D W) {B:Nat} (hB:w0.heap.size<=B) (v:Value):SE .i32 w0 b off L0 i32 D (W.setCell ⟨B,0,none⟩ v):=
 ⟨h.base,h.blk,h.len,h.all,h.ext.setCell (by rw[size_put];exact hB) v⟩
structure Cnt (W:World) (B:Nat) (s:Nat):Prop where
 c:W.cell? ⟨B,0,none⟩=some (.int .i64 s)
 f:W.frozen? ⟨B,0,none⟩=false
 lt:B<W.heap.size/\B≠W.heap.size
theorem Cnt.ext {W W':World} {B s:Nat} (h:Cnt W B s) (e:Ext W W'):Cnt W' B s:=⟨e.cell h.c,(e.frozen h.lt.1).trans h.f,by have:=e.size;have:=h.lt;omega⟩
theorem Cnt.set {W:World} {B s:Nat} (h:Cnt W B s) (t:Nat):Cnt (W.setCell ⟨B,0,none⟩ (.int .i64 t)) B t:=⟨World.cell?_setCell_same _ _ _ h.c,by rw[World.frozen?_setCell];exact h.f,by have:=h.lt;simpa [World.setCell] using this⟩
def OrdPost (w0:World) (b off:Nat) (L0 D:List Int) (p q B s:Nat) (e:Ending) (w':World):Prop:=∃ (p' q' s':Nat),e=.returned (.tuple #[.int .i64 p',.int .i64 q'])/\(p'=p/\q'=q\/p'=q/\q'=p)/\s'<=s+1/\SE .i32 w0 b off L0 i32 D w'/\Cnt w' B s'
def MedPost (w0:World) (b off:Nat) (L0 D:List Int) (p q r B s:Nat) (e:Ending) (w':World):Prop:=∃ (m s':Nat),e=.returned (.int .i64 m)/\(m=p\/m=q\/m=r)/\s'<=s+3/\SE .i32 w0 b off L0 i32 D w'/\Cnt w' B s'
def PivPost (w0:World) (b off:Nat) (L0 D:List Int) (x y:Nat) (e:Ending) (w':World):Prop:=∃ (m:Nat) (h:Int),e=.returned (.tuple #[.int .i64 m,.int .i64 h])/\x<=m/\m<y/\(h=0\/h=1\/h=2)/\SE .i32 w0 b off L0 i32 D w'
theorem order2_r (w0:World) (b off N cap:Nat) (L0 D:List Int) (w:World) (p q B s:Nat) (S:SE .i32 w0 b off L0 i32 D w) (C:Cnt w B s) (hN:D.length=N) (hp:p<N) (hq:q<N) (hB:w0.heap.size<=B) (hs:s<=1000) (hm:N<1152921504606846976) :
  Calls Tryz.prog 188 #[.slice (some ⟨b,off,none⟩) N cap,.int .i64 p,.int .i64 q,.pointer (some ⟨B,0,none⟩)] w fun e w'=>OrdPost w0 b off L0 D p q B s e w':=by
 have S0:=hid S;have C0:=hid C;have HL:=hid hN;clear S C hN;have bp:(p:Int)<(N:Int):=by omega
 have bq:(q:Int)<(N:Int):=by omega
 obtain⟨u,hu⟩:∃ z,z=D.getD q 0:=⟨_,rfl⟩
 have HU:=hid hu;clear hu;obtain⟨v,hv⟩:∃ z,z=D.getD p 0:=⟨_,rfl⟩
 have HV:=hid hv;clear hv;have c1:=fun pF:Far w=>(S0.out.more pF.ext).cell (i:=q) (by rw[HL.out];omega);rw[<- HU.out] at c1;have c2:=fun pF:Far w=>(S0.out.more pF.ext).cell (i:=p) (by rw[HL.out];omega);rw[<- HV.out] at c2;go_enter Tryz.func188,Tryz.ntmps188;by_cases hlv:u<v
 ·have hvd:decide (u<v)=true:=decide_eq_true hlv;go_wp2;refine wp_region_far (by kernel_rfl) (by kernel_rfl) ?_
  repeat (quiet_step (first | (go_at_call 175;refine Calls.far_of (Less_far _ _ _))))
  refine wpQuiet_nil ?_;intro w2 hw';obtain⟨pf,hw2⟩:=hw';have hx2:Ext w w2:=by rw[hw2];exact pf.ext
  clear hw2 pf;have S2:=hid (S0.out.more hx2);have C2:=hid (C0.out.ext hx2);clear c1 c2 hx2;obtain⟨k,kf,kl⟩:=C2.out;obtain⟨t1,ht1⟩:∃ z,z=s+1:=⟨_,rfl⟩
  have ea17:(s:Int)+1=(t1:Int):=by omega
  have wa17:IntKind.i64.wrap ((s:Int)+1)=(t1:Int):=by rw[IntKind.wrap_i64];omega
  have wb17:IntKind.i64.wrap (t1:Int)=(t1:Int):=by rw[IntKind.wrap_i64];omega
  have S3:=hid (S2.out.box hB (.int .i64 (t1:Int)));have C3:=hid (C2.out.set t1);have HT1:=hid ht1;clear ht1;go_wp2;go_ret2;exact⟨q,p,t1,rfl,.inr ⟨rfl,rfl⟩,Nat.le_of_eq HT1.out,S3.out,C3.out⟩
 ·have hvd:decide (u<v)=false:=decide_eq_false hlv;go_wp2;refine wp_region_far (by kernel_rfl) (by kernel_rfl) ?_
  repeat (quiet_step (first | (go_at_call 175;refine Calls.far_of (Less_far _ _ _))))
  refine wpQuiet_nil ?_;intro w2 hw';obtain⟨pf,hw2⟩:=hw';have hx2:Ext w w2:=by rw[hw2];exact pf.ext
  clear hw2 pf;have S2:=hid (S0.out.more hx2);have C2:=hid (C0.out.ext hx2);clear c1 c2 hx2;go_wp2;go_ret2;exact⟨p,q,s,rfl,.inl ⟨rfl,rfl⟩,Nat.le_succ _,S2.out,C2.out⟩
theorem median_r (w0:World) (b off N cap:Nat) (L0 D:List Int) (w:World) (p q r B s:Nat) (S:SE .i32 w0 b off L0 i32 D w) (C:Cnt w B s) (hN:D.length=N) (hp:p<N) (hq:q<N) (hr:r<N) (hB:w0.heap.size<=B) (hs:s<=900) (hm:N<1152921504606846976) :
  Calls Tryz.prog 182 #[.slice (some ⟨b,off,none⟩) N cap,.int .i64 p,.int .i64 q,.int .i64 r,.pointer (some ⟨B,0,none⟩)] w fun e w'=>MedPost w0 b off L0 D p q r B s e w':=by
 have S0:=hid S;have C0:=hid C;have HL:=hid hN;clear S C hN;go_enter Tryz.func182,Tryz.ntmps182
 go_wp2_with (first
  | (go_at_call 188;((with_reducible refine (order2_r w0 b off N cap L0 D _ p q B s S0.out C0.out HL.out (by omega) (by omega) hB (by omega) hm).mono ?_);rintro e w1 ⟨p1,q1,s1,rfl,ho1,hs1,hS1,hC1⟩;have hp1:p1<N:=(by omega);have hq1:q1<N:=(by omega);have S1:=hid hS1;have C1:=hid hC1;have HO1:=hid ho1;clear hS1 hC1 ho1))
  | (go_at_call 188;((with_reducible refine (order2_r w0 b off N cap L0 D _ q1 r B s1 S1.out C1.out HL.out (by omega) (by omega) hB (by omega) hm).mono ?_);rintro e w2 ⟨p2,q2,s2,rfl,ho2,hs2,hS2,hC2⟩;have hp2:p2<N:=(by omega);have hq2:q2<N:=(by omega);have S2:=hid hS2;have C2:=hid hC2;have HO2:=hid ho2;clear hS2 hC2 ho2))
  | (go_at_call 188;((with_reducible refine (order2_r w0 b off N cap L0 D _ p1 p2 B s2 S2.out C2.out HL.out (by omega) (by omega) hB (by omega) hm).mono ?_);rintro e w3 ⟨p3,q3,s3,rfl,ho3,hs3,hS3,hC3⟩;have hp3:p3<N:=(by omega);have hq3:q3<N:=(by omega);have S3:=hid hS3;have C3:=hid hC3;have HO3:=hid ho3;clear hS3 hC3 ho3)))
 go_ret;have h1:=HO1.out;have h2:=HO2.out;have h3:=HO3.out;exact⟨q3,s3,rfl,by omega,by omega,S3.out,C3.out⟩
theorem medAdj_r (w0:World) (b off N cap:Nat) (L0 D:List Int) (w:World) (p B s:Nat) (S:SE .i32 w0 b off L0 i32 D w) (C:Cnt w B s) (hN:D.length=N) (hp:p+1<N) (hp0:0<p) (hB:w0.heap.size<=B) (hs:s<=900) (hm:N<1152921504606846976) :
  Calls Tryz.prog 181 #[.slice (some ⟨b,off,none⟩) N cap,.int .i64 p,.pointer (some ⟨B,0,none⟩)] w fun e w'=>MedPost w0 b off L0 D (p-1) p (p+1) B s e w':=by
 have M:=hid (median_r w0 b off N cap L0 D w (p-1) p (p+1) B s S C hN (by omega) (by omega) hp hB hs hm);have e1:((p-1:Nat):Int)=(p:Int)-1:=by omega
 have e2:((p+1:Nat):Int)=(p:Int)+1:=by omega
 rw[e1,e2] at M;have w1:IntKind.i64.wrap ((p:Int)-1)=(p:Int)-1:=by rw[IntKind.wrap_i64];omega
 have w2:IntKind.i64.wrap ((p:Int)+1)=(p:Int)+1:=by rw[IntKind.wrap_i64];omega
 clear S C e1 e2;go_enter Tryz.func181,Tryz.ntmps181;go_wp2_with (go_at_call 182;refine M.out.mono ?_;rintro e w' ⟨m,s',rfl,h⟩);go_ret;exact⟨m,s',rfl,h⟩
theorem pivot_r (w0:World) (b off N cap:Nat) (L0 D:List Int) (w:World) (x y:Nat) (S:SE .i32 w0 b off L0 i32 D w) (hN:D.length=N) (hxy:x+12<y) (hy:y<=N) (hm:N<1152921504606846976) :
  Calls Tryz.prog 172 #[.slice (some ⟨b,off,none⟩) N cap,.int .i64 x,.int .i64 y] w fun e w'=>PivPost w0 b off L0 D x y e w':=by
 have hB:w0.heap.size<=w.heap.size:=by have:=S.ext.size;rwa [size_put] at this
 have S0:=hid (S.more ((Ext.refl w).alloc (.cells #[.int .i64 0] 3)));have C0:Hid (Cnt (w.alloc (.cells #[.int .i64 0] 3)) w.heap.size 0):=hid ⟨cell_new w _ _ 0 _ rfl,by simp,by simp⟩;have HL:=hid hN;clear S hN;obtain⟨l,hl⟩:∃ z,x+z=y:=⟨y-x,by omega⟩
 have ea18:(y:Int)-(x:Int)=(l:Int):=by omega
 have wa18:IntKind.i64.wrap ((y:Int)-(x:Int))=(l:Int):=by rw[IntKind.wrap_i64];omega
 have wb18:IntKind.i64.wrap (l:Int)=(l:Int):=by rw[IntKind.wrap_i64];omega
 have hl12:12<l:=by omega
 obtain⟨g,hg⟩:∃ z,z=l / 4:=⟨_,rfl⟩
 have eg:(l:Int) / 4=(g:Int):=by omega
 have eg2:Int.tdiv (l:Int) 4=(g:Int):=by rw[Int.tdiv_eq_ediv_of_nonneg (by omega)];exact eg
 obtain⟨i,qi⟩:∃ z,z=x+g:=⟨_,rfl⟩
 obtain⟨j,qj⟩:∃ z,z=x+g*2:=⟨_,rfl⟩
 obtain⟨kk,qkk⟩:∃ z,z=x+g*3:=⟨_,rfl⟩
 have ez1:(g:Int)*1=(g:Int):=by omega
 obtain⟨g2,hg2⟩:∃ z,z=g*2:=⟨_,rfl⟩
 have ea19:(g:Int)*2=(g2:Int):=by omega
 have wa19:IntKind.i64.wrap ((g:Int)*2)=(g2:Int):=by rw[IntKind.wrap_i64];omega
 have wb19:IntKind.i64.wrap (g2:Int)=(g2:Int):=by rw[IntKind.wrap_i64];omega
 obtain⟨g3,hg3⟩:∃ z,z=g*3:=⟨_,rfl⟩
 have ea20:(g:Int)*3=(g3:Int):=by omega
 have wa20:IntKind.i64.wrap ((g:Int)*3)=(g3:Int):=by rw[IntKind.wrap_i64];omega
 have wb20:IntKind.i64.wrap (g3:Int)=(g3:Int):=by rw[IntKind.wrap_i64];omega
 have ea21:(x:Int)+(g:Int)=(i:Int):=by omega
 have wa21:IntKind.i64.wrap ((x:Int)+(g:Int))=(i:Int):=by rw[IntKind.wrap_i64];omega
 have wb21:IntKind.i64.wrap (i:Int)=(i:Int):=by rw[IntKind.wrap_i64];omega
 have ea22:(x:Int)+(g2:Int)=(j:Int):=by omega
 have wa22:IntKind.i64.wrap ((x:Int)+(g2:Int))=(j:Int):=by rw[IntKind.wrap_i64];omega
 have wb22:IntKind.i64.wrap (j:Int)=(j:Int):=by rw[IntKind.wrap_i64];omega
 have ea23:(x:Int)+(g3:Int)=(kk:Int):=by omega
 have wa23:IntKind.i64.wrap ((x:Int)+(g3:Int))=(kk:Int):=by rw[IntKind.wrap_i64];omega
 have wb23:IntKind.i64.wrap (kk:Int)=(kk:Int):=by rw[IntKind.wrap_i64];omega
 have hgx:3<=g/\g*4<=l:=by omega
 have hi:x+2<=i/\i+2<y:=by omega
 have hj:x+2<=j/\j+2<y:=by omega
 have hk:x+2<=kk/\kk+2<y:=by omega
 have h8:(8:Int)<=(l:Int):=by omega
 have h8d:decide ((l:Int) ≥ 8)=true:=decide_eq_true h8;have h8e:decide ((8:Int)<=(l:Int))=true:=decide_eq_true h8;have wg:IntKind.i64.wrap (g:Int)=(g:Int):=by rw[IntKind.wrap_i64];omega
 clear qi qj qkk hg hg2 hg3 hl hgx;go_enter Tryz.func172,Tryz.ntmps172;by_cases h50:(50:Int)<=(l:Int)
 ·have h50d:decide ((l:Int) ≥ 50)=true:=decide_eq_true h50;have h50e:decide ((50:Int)<=(l:Int))=true:=decide_eq_true h50
  go_upto_region 12 with (first
   | (go_at_call 181;((with_reducible refine (medAdj_r w0 b off N cap L0 D _ i w.heap.size 0 S0.out C0.out HL.out (by omega) (by omega) hB (by omega) hm).mono ?_);rintro e w1 ⟨m1,s1,rfl,ho1,hs1,hS1,hC1⟩;have hm1:x<=m1/\m1<y:=(by omega);have S1:=hid hS1;have C1:=hid hC1;clear hS1 hC1 ho1))
   | (go_at_call 181;((with_reducible refine (medAdj_r w0 b off N cap L0 D _ j w.heap.size s1 S1.out C1.out HL.out (by omega) (by omega) hB (by omega) hm).mono ?_);rintro e w2 ⟨m2,s2,rfl,ho2,hs2,hS2,hC2⟩;have hm2:x<=m2/\m2<y:=(by omega);have S2:=hid hS2;have C2:=hid hC2;clear hS2 hC2 ho2))
   | (go_at_call 181;((with_reducible refine (medAdj_r w0 b off N cap L0 D _ kk w.heap.size s2 S2.out C2.out HL.out (by omega) (by omega) hB (by omega) hm).mono ?_);rintro e w3 ⟨m3,s3,rfl,ho3,hs3,hS3,hC3⟩;have hm3:x<=m3/\m3<y:=(by omega);have S3:=hid hS3;have C3:=hid hC3;clear hS3 hC3 ho3))
   | (go_at_call 182;((with_reducible refine (median_r w0 b off N cap L0 D _ m1 m2 m3 w.heap.size s3 S3.out C3.out HL.out (by omega) (by omega) (by omega) hB (by omega) hm).mono ?_);rintro e w4 ⟨m4,s4,rfl,ho4,hs4,hS4,hC4⟩;have hm4:x<=m4/\m4<y:=(by omega);have S4:=hid hS4;have C4:=hid hC4;obtain⟨k,kf,kl⟩:=C4.out;clear hS4 hC4 ho4)))
  generalize (s4:Int)=sz at *;by_cases z0:sz=0
  ·subst z0;go_wp2;go_ret2;exact⟨m4,1,rfl,hm4.1,hm4.2,by omega,S4.out⟩
  ·have g0:(sz==0)=false:=by simpa using z0
   by_cases z1:sz=12
   ·subst z1;go_wp2;go_ret2;exact⟨m4,2,rfl,hm4.1,hm4.2,by omega,S4.out⟩
   ·have g2:(sz==12)=false:=by simpa using z1
    go_wp2;go_ret2;exact⟨m4,0,rfl,hm4.1,hm4.2,by omega,S4.out⟩
 ·have h50d:decide ((l:Int) ≥ 50)=false:=decide_eq_false h50;have h50e:decide ((50:Int)<=(l:Int))=false:=decide_eq_false h50
  go_upto_region 12 with (first
   | (go_at_call 182;((with_reducible refine (median_r w0 b off N cap L0 D _ i j kk w.heap.size 0 S0.out C0.out HL.out (by omega) (by omega) (by omega) hB (by omega) hm).mono ?_);rintro e w4 ⟨m4,s4,rfl,ho4,hs4,hS4,hC4⟩;have hm4:x<=m4/\m4<y:=(by omega);have S4:=hid hS4;have C4:=hid hC4;obtain⟨k,kf,kl⟩:=C4.out;clear hS4 hC4 ho4)))
  generalize (s4:Int)=sz at *;by_cases z0:sz=0
  ·subst z0;go_wp2;go_ret2;exact⟨m4,1,rfl,hm4.1,hm4.2,by omega,S4.out⟩
  ·have g0:(sz==0)=false:=by simpa using z0
   by_cases z1:sz=12
   ·subst z1;go_wp2;go_ret2;exact⟨m4,2,rfl,hm4.1,hm4.2,by omega,S4.out⟩
   ·have g2:(sz==12)=false:=by simpa using z1
    go_wp2;go_ret2;exact⟨m4,0,rfl,hm4.1,hm4.2,by omega,S4.out⟩
end Go.Proofs.YthomjcjnalfipaaGreatDoor
namespace Go.Proofs.YthomjcjnalfipaaGreatDoor
open Go.Shelf
def sortSp_ren:Go.Shelf.Ren:=⟨fun | 6=>59 | 15=>96 | 14=>95 | 28=>132 | 29=>133 | 20=>124 | 21=>125 | 22=>126 | 23=>127 | 24=>128 | 25=>129 | 26=>130 | 27=>131 | 46=>154 | 47=>155 | 48=>156 | 49=>157 | 50=>158 | 57=>168 | n=>n,fun | 22=>23 | 24=>30 | 25=>128 | 3=>3 | 39=>129 | 0=>0 | 53=>203 | 55=>205 | 4=>4 | 46=>196 | 45=>195 | 50=>200 | 5=>5 | 9=>9 | 66=>223 | 70=>227 | 76=>234 | 77=>235 | n=>n,fun | n=>n⟩
theorem sortSp:Go.Proofs.SlLaysF0.n6 Tryz.prog sortSp_ren:={
 mixed:=by kernel_rfl
 f6:=⟨Tryz.f59.name,by decide,Tryz.func59.trans (congrArg some (by kernel_rfl))⟩
 f14:=⟨Tryz.f95.name,by decide,Tryz.func95.trans (congrArg some (by kernel_rfl))⟩
 f15:=Tryz.func96.trans (congrArg some (by kernel_rfl))
 f20:=⟨Tryz.f124.name,by decide,Tryz.func124.trans (congrArg some (by kernel_rfl))⟩
 f21:=⟨Tryz.f125.name,by decide,Tryz.func125.trans (congrArg some (by kernel_rfl))⟩
 f22:=⟨Tryz.f126.name,by decide,Tryz.func126.trans (congrArg some (by kernel_rfl))⟩
 f23:=⟨Tryz.f127.name,by decide,Tryz.func127.trans (congrArg some (by kernel_rfl))⟩
 f24:=⟨Tryz.f128.name,by decide,Tryz.func128.trans (congrArg some (by kernel_rfl))⟩
 f25:=⟨Tryz.f129.name,by decide,Tryz.func129.trans (congrArg some (by kernel_rfl))⟩
 f26:=⟨Tryz.f130.name,by decide,Tryz.func130.trans (congrArg some (by kernel_rfl))⟩
 f27:=⟨Tryz.f131.name,by decide,Tryz.func131.trans (congrArg some (by kernel_rfl))⟩
 f28:=Tryz.func132.trans (congrArg some (by kernel_rfl))
 f29:=Tryz.func133.trans (congrArg some (by kernel_rfl))
 f46:=⟨Tryz.f154.name,by decide,Tryz.func154.trans (congrArg some (by kernel_rfl))⟩
 f47:=Tryz.func155.trans (congrArg some (by kernel_rfl))
 f48:=Tryz.func156.trans (congrArg some (by kernel_rfl))
 f49:=⟨Tryz.f157.name,by decide,Tryz.func157.trans (congrArg some (by kernel_rfl))⟩
 f50:=⟨Tryz.f158.name,by decide,Tryz.func158.trans (congrArg some (by kernel_rfl))⟩
 f57:=⟨Tryz.f168.name,by decide,Tryz.func168.trans (congrArg some (by kernel_rfl))⟩
 t0:=Tryz.underlying0
 a0:=Tryz.isAgg0
 z0:=Tryz.sizeOf0
 v0:=Tryz.zeroValue0
 t3:=Tryz.underlying3
 a3:=Tryz.isAgg3
 z3:=Tryz.sizeOf3
 v3:=Tryz.zeroValue3
 t4:=Tryz.underlying4
 a4:=Tryz.isAgg4
 z4:=Tryz.sizeOf4
 v4:=Tryz.zeroValue4
 t5:=Tryz.underlying5
 a5:=Tryz.isAgg5
 z5:=Tryz.sizeOf5
 v5:=Tryz.zeroValue5
 t9:=Tryz.underlying9
 a9:=Tryz.isAgg9
 z9:=Tryz.sizeOf9
 v9:=Tryz.zeroValue9
 t22:=Tryz.underlying23
 a22:=Tryz.isAgg23
 z22:=Tryz.sizeOf23
 v22:=Tryz.zeroValue23
 t25:=Tryz.underlying128
 a25:=Tryz.isAgg128
 z25:=Tryz.sizeOf128
 v25:=Tryz.zeroValue128
 t39:=Tryz.underlying129
 a39:=Tryz.isAgg129
 z39:=Tryz.sizeOf129
 v39:=Tryz.zeroValue129
 t45:=Tryz.underlying195
 a45:=Tryz.isAgg195
 z45:=Tryz.sizeOf195
 v45:=Tryz.zeroValue195
 t46:=Tryz.underlying196
 a46:=Tryz.isAgg196
 z46:=Tryz.sizeOf196
 v46:=Tryz.zeroValue196
 t50:=Tryz.underlying200
 a50:=Tryz.isAgg200
 z50:=Tryz.sizeOf200
 v50:=Tryz.zeroValue200
 t53:=Tryz.underlying203
 a53:=Tryz.isAgg203
 z53:=Tryz.sizeOf203
 v53:=Tryz.zeroValue203
 t55:=Tryz.underlying205
 a55:=Tryz.isAgg205
 z55:=Tryz.sizeOf205
 v55:=Tryz.zeroValue205
 t66:=Tryz.underlying223
 a66:=Tryz.isAgg223
 z66:=Tryz.sizeOf223
 v66:=Tryz.zeroValue223
 t70:=Tryz.underlying227
 a70:=Tryz.isAgg227
 z70:=Tryz.sizeOf227
 v70:=Tryz.zeroValue227
 t76:=Tryz.underlying234
 a76:=Tryz.isAgg234
 z76:=Tryz.sizeOf234
 v76:=Tryz.zeroValue234
 t77:=Tryz.underlying235
 a77:=Tryz.isAgg235
 z77:=Tryz.sizeOf235
 v77:=Tryz.zeroValue235 }
end Go.Proofs.YthomjcjnalfipaaGreatDoor
namespace Go.Proofs.YthomjcjnalfipaaGreatDoor
open Go.RowKit Go.Sort
theorem size_setZ (w:World) (a:Addr) (v:Value):(w.setCell a v).heap.size=w.heap.size:=by simp[World.setCell]
theorem set_other2 {w:World} {B b o:Nat} {u v:Value} (h:w.cell? ⟨B,0,none⟩=some u) (hb:b≠B):(w.setCell ⟨b,o,none⟩ v).cell? ⟨B,0,none⟩=some u:=
 (World.cell?_setCell_other _ _ _ _ (by intro e;simp only[Addr.mk.injEq] at e;exact hb e.1)).trans h
open Go.Shelf in
theorem nextPow_any (l:Nat) (hl:l<4611686018427387904) (w:World):Calls Tryz.prog 155 #[.int .i64 l] w fun e w'=>e=.returned (.int .u64 ((1 <<< bitsLen l:Nat):Int))/\w'=w:=
 AnyF.nextPowerOfTwo (P:=Tryz.prog) (ρ:=sortSp_ren) { sortSp with } l hl w
open Go.Shelf in
theorem xorNext_any (B R:Nat) (hR:R<18446744073709551616) (w:World) (hc:w.cell? ⟨B,0,none⟩=some (.int .u64 R)) (hf:w.frozen? ⟨B,0,none⟩=false) :
  Calls Tryz.prog 156 #[.pointer (some ⟨B,0,none⟩)] w fun e w'=>e=.returned (.int .u64 (xorNextN R:Nat))/\w'=(w.setCell ⟨B,0,none⟩ (.int .u64 (xorNextN R:Nat))).drewN 3:=
 AnyF.xorshift_Next (P:=Tryz.prog) (ρ:=sortSp_ren) { sortSp with } B 0 R hR w hc hf
def NextPost (w0:World) (b off:Nat) (L0 D:List Int) (B R2:Nat) (e:Ending) (w':World):Prop:=e=.returned (.int .u64 (R2:Nat))/\SE .i32 w0 b off L0 i32 D w'/\w'.cell? ⟨B,0,none⟩=some (.int .u64 R2)/\w'.frozen? ⟨B,0,none⟩=false/\B<w'.heap.size
theorem next_r {w0 w:World} {b off:Nat} {L0 D:List Int} {B R:Nat} (S:SE .i32 w0 b off L0 i32 D w) (hB:w0.heap.size<=B) (hR:R<18446744073709551616) (hc:w.cell? ⟨B,0,none⟩=some (.int .u64 R)) (hf:w.frozen? ⟨B,0,none⟩=false) (hl:B<w.heap.size) :
  Calls Tryz.prog 156 #[.pointer (some ⟨B,0,none⟩)] w fun e w'=>NextPost w0 b off L0 D B (xorNextN R) e w':=
 (xorNext_any B R hR w hc hf).mono fun e w' ⟨h1,h2⟩=>by
  subst h2;refine⟨h1,(S.box hB _).more ((Ext.refl _).drewN 3),?_,?_,?_⟩
  ·rw[World.cell?_drewN];exact World.cell?_setCell_same _ _ _ hc
  ·rw[World.frozen?_drewN,World.frozen?_setCell];exact hf
  ·exact Nat.lt_of_lt_of_le (by rw[size_setZ];exact hl) ((Ext.refl _).drewN 3).size
theorem breakPat_r (w0:World) (b off N cap:Nat) (L0 L:List Int) (w:World) (x y:Nat) (S:SE .i32 w0 b off L0 i32 L w) (hN:L.length=N) (hxy:x+8<=y) (hy:y<=N) (hm:N<1152921504606846976) :
  Calls Tryz.prog 171 #[.slice (some ⟨b,off,none⟩) N cap,.int .i64 x,.int .i64 y] w fun e w'=>e=.returned (.tuple #[])/\∃ D,SE .i32 w0 b off L0 i32 D w'/\Sw x y L D:=by
 have hB:w0.heap.size<=w.heap.size:=by have:=S.ext.size;rwa [size_put] at this
 have hbB:b≠w.heap.size:=S.lt.2;have HN:=hid hN;obtain⟨l,hl⟩:∃ z,x+z=y:=⟨y-x,by omega⟩
 obtain⟨M,hM⟩:∃ M:Nat,M=1 <<< bitsLen l:=⟨_,rfl⟩
 have hM1:1<=M:=by rw[hM,Nat.one_shiftLeft];exact Nat.two_pow_pos _
 have hM2:M<=2*l:=by rw[hM,Nat.one_shiftLeft];exact two_pow_bitsLen_le (by omega)
 have HNP:=hid (fun W=>nextPow_any l (by omega) W);rw[<- hM] at HNP;clear hM hN;obtain⟨g,hg⟩:∃ z,z=l / 4:=⟨_,rfl⟩
 have eg:(l:Int) / 4=(g:Int):=by omega
 have eg2:Int.tdiv (l:Int) 4=(g:Int):=by rw[Int.tdiv_eq_ediv_of_nonneg (by omega)];exact eg
 have wg:IntKind.i64.wrap (g:Int)=(g:Int):=by rw[IntKind.wrap_i64];omega
 obtain⟨g2,hg2⟩:∃ z,z=g*2:=⟨_,rfl⟩
 obtain⟨a1,ha1⟩:∃ z,z=x+g2:=⟨_,rfl⟩
 obtain⟨i0,hi0⟩:∃ z,z+1=a1:=⟨a1-1,by omega⟩
 obtain⟨a2,ha2⟩:∃ z,z=a1+1:=⟨_,rfl⟩
 have ea24:(y:Int)-(x:Int)=(l:Int):=by omega
 have wa24:IntKind.i64.wrap ((y:Int)-(x:Int))=(l:Int):=by rw[IntKind.wrap_i64];omega
 have wb24:IntKind.i64.wrap (l:Int)=(l:Int):=by rw[IntKind.wrap_i64];omega
 have ea25:(g:Int)*2=(g2:Int):=by omega
 have wa25:IntKind.i64.wrap ((g:Int)*2)=(g2:Int):=by rw[IntKind.wrap_i64];omega
 have wb25:IntKind.i64.wrap (g2:Int)=(g2:Int):=by rw[IntKind.wrap_i64];omega
 have ea26:(x:Int)+(g2:Int)=(a1:Int):=by omega
 have wa26:IntKind.i64.wrap ((x:Int)+(g2:Int))=(a1:Int):=by rw[IntKind.wrap_i64];omega
 have wb26:IntKind.i64.wrap (a1:Int)=(a1:Int):=by rw[IntKind.wrap_i64];omega
 have ea27:(a1:Int)-1=(i0:Int):=by omega
 have wa27:IntKind.i64.wrap ((a1:Int)-1)=(i0:Int):=by rw[IntKind.wrap_i64];omega
 have wb27:IntKind.i64.wrap (i0:Int)=(i0:Int):=by rw[IntKind.wrap_i64];omega
 have ea28:(a1:Int)+1=(a2:Int):=by omega
 have wa28:IntKind.i64.wrap ((a1:Int)+1)=(a2:Int):=by rw[IntKind.wrap_i64];omega
 have wb28:IntKind.i64.wrap (a2:Int)=(a2:Int):=by rw[IntKind.wrap_i64];omega
 have hi1:x<=i0:=by omega
 have hi2:i0+2=a2:=by omega
 have hi3:a2<y:=by omega
 have HI2:=hid hi2;have h8:(8:Int)<=(l:Int):=by omega
 have h8d:decide ((l:Int) ≥ 8)=true:=decide_eq_true h8;have h8e:decide ((8:Int)<=(l:Int))=true:=decide_eq_true h8;have wl:IntKind.u64.wrap (l:Int)=(l:Int):=by simp[IntKind.wrap,IntKind.bits,IntKind.signed];omega
 have wM:IntKind.u64.wrap ((M:Int)-1)=(M:Int)-1:=by simp[IntKind.wrap,IntKind.bits,IntKind.signed];omega
 have hly:x+l<=y:=by omega
 have hlb:l<1152921504606846976:=by omega
 have S0:=hid (S.more ((Ext.refl w).alloc (.cells #[.int .u64 l] 223)));have K0:Hid ((w.alloc (.cells #[.int .u64 l] 223)).cell? ⟨w.heap.size,0,none⟩=some (.int .u64 l)/\(w.alloc (.cells #[.int .u64 l] 223)).frozen? ⟨w.heap.size,0,none⟩=false/\w.heap.size<(w.alloc (.cells #[.int .u64 l] 223)).heap.size):=hid ⟨cell_new w _ _ 0 _ rfl,by simp,by simp⟩;clear S hl hg hg2 ha1 hi0 ha2 hi2;go_enter Tryz.func171,Tryz.ntmps171;go_wp2_with (go_at_call 155;refine (HNP.out _).mono ?_;rintro e w' ⟨rfl,rfl⟩);generalize w.alloc (.cells #[.int .u64 l] 223)=wa at *;go_loopw [9] (fun vi wr=>∃ (i R:Nat) (D:List Int),vi=.int .i64 i/\i0<=i/\i<=a2+1/\R<18446744073709551616/\Hid (SE .i32 w0 b off L0 i32 D wr)/\Hid (Sw x y L D)/\Hid (wr.cell? ⟨w.heap.size,0,none⟩=some (.int .u64 R)/\wr.frozen? ⟨w.heap.size,0,none⟩=false/\w.heap.size<wr.heap.size)) (fun vi _=>a2+1-(intOf vi).toNat);case atStart=>exact⟨i0,l,L,rfl,by omega,by have:=HI2.out;omega,by omega,S0,hid (.refl L),K0⟩
 case round=>
  clear S0 K0;obtain⟨i,R,D,rfl,h1,h2,hR,S1,HW,K1⟩:=hrel;have HL:Hid (D.length=N):=hid (HW.out.len.trans HN.out);by_cases hlt:i<=a2
  ·have gi:(i:Int)<=(a2:Int):=by omega
   have gid:decide ((i:Int)<=(a2:Int))=true:=decide_eq_true gi;obtain⟨R2,hR2e⟩:∃ z,z=xorNextN R:=⟨_,rfl⟩
   have hR2:R2<18446744073709551616:=by rw[hR2e];exact xorNextN_lt R hR
   have CN:=hid (next_r S1.out hB hR K1.out.1 K1.out.2.1 K1.out.2.2);rw[<- hR2e] at CN;obtain⟨o,ho⟩:∃ z,z=R2 &&& (M-1):=⟨_,rfl⟩
   have hoM:o<=M-1:=by rw[ho];exact Nat.and_le_right
   have eAnd:bits .and .u64 (R2:Int) ((M:Int)-1)=(o:Int):=by
    rw[show ((M:Int)-1)=((M-1:Nat):Int) by omega,bits_and_u64_nat _ _ hR2 (by omega),ho]
   have wo:IntKind.i64.wrap (o:Int)=(o:Int):=by rw[IntKind.wrap_i64];omega
   clear ho hR2e S1 K1;by_cases hlo:l<=o
   ·obtain⟨o2,ho2⟩:∃ z,z=o-l:=⟨_,rfl⟩
    have hz:(l:Int)<=(o:Int):=by omega
    have hzd:decide ((o:Int) ≥ (l:Int))=true:=decide_eq_true hz;have hze:decide ((l:Int)<=(o:Int))=true:=decide_eq_true hz;have ea29:(o:Int)-(l:Int)=(o2:Int):=by omega
    have wa29:IntKind.i64.wrap ((o:Int)-(l:Int))=(o2:Int):=by rw[IntKind.wrap_i64];omega
    have wb29:IntKind.i64.wrap (o2:Int)=(o2:Int):=by rw[IntKind.wrap_i64];omega
    have ho3:o2<l:=by omega
    clear ho2;go_upto_region 10 with (go_at_call 156;refine CN.out.mono ?_;rintro e w2 ⟨rfl,hS,hc,hf,hlt2⟩;have S2:=hid hS;have K2:=hid (And.intro hc (And.intro hf hlt2));clear hS hc hf hlt2);obtain⟨P,qP⟩:∃ z,z=x+o2:=⟨_,rfl⟩
    have ea30:(x:Int)+(o2:Int)=(P:Int):=by omega
    have wa30:IntKind.i64.wrap ((x:Int)+(o2:Int))=(P:Int):=by rw[IntKind.wrap_i64];omega
    have wb30:IntKind.i64.wrap (P:Int)=(P:Int):=by rw[IntKind.wrap_i64];omega
    have hPx:x<=P/\P<y:=by omega
    have bi:(i:Int)<(N:Int):=by omega
    have bP:(P:Int)<(N:Int):=by omega
    clear qP;obtain⟨u,hu⟩:∃ z,z=D.getD i 0:=⟨_,rfl⟩
    have HU:=hid hu;clear hu;obtain⟨v,hv⟩:∃ z,z=D.getD P 0:=⟨_,rfl⟩
    have HV:=hid hv;clear hv;have HW2:=hid (show Sw x y L (sw D i P) from .step HW.out (by omega) (by omega) (by omega) (by omega));have HL2:Hid ((sw D i P).length=N):=hid (by rw[sw_len];exact HL.out);clear HW;have k1:=K2.out.1;have k2:=K2.out.2.1;have k3:=K2.out.2.2
    have K3:Hid ((((w2.setCell ⟨b,off+i,none⟩ (Value.int .i32 v)).setCell ⟨b,off+P,none⟩ (Value.int .i32 u)).drew).cell? ⟨w.heap.size,0,none⟩=some (.int .u64 R2)/\(((w2.setCell ⟨b,off+i,none⟩ (Value.int .i32 v)).setCell ⟨b,off+P,none⟩ (Value.int .i32 u)).drew).frozen? ⟨w.heap.size,0,none⟩=false/\w.heap.size<(((w2.setCell ⟨b,off+i,none⟩ (Value.int .i32 v)).setCell ⟨b,off+P,none⟩ (Value.int .i32 u)).drew).heap.size):=hid ⟨by
     show ((w2.setCell _ _).setCell _ _).cell? _=_;exact set_other2 (set_other2 k1 hbB) hbB,by
     show ((w2.setCell _ _).setCell _ _).frozen? _=_
     rw[World.frozen?_setCell,World.frozen?_setCell];exact k2,by show _<((w2.setCell _ _).setCell _ _).heap.size;rw[size_setZ,size_setZ];exact k3⟩
    clear k1 k2 k3 K2;have S3:=hid (S2.out.swap (i:=i) (j:=P) (by rw[HL.out];omega) (by rw[HL.out];omega));rw[<- HU.out,<- HV.out] at S3;have m1:=S2.out.cell (i:=i) (by rw[HL.out];omega);have m2:=S2.out.cell (i:=P) (by rw[HL.out];omega);rw[<- HU.out] at m1;rw[<- HV.out] at m2;have m3:=S2.out.frz (i:=i) (by rw[HL.out];omega);have m4:=S2.out.frz (i:=P) (by rw[HL.out];omega);obtain⟨t,m5⟩:=S2.out.c2 (i:=i) (j:=P) (by rw[HL.out];omega) (by rw[HL.out];omega) (.int .i32 v);clear S2;clear HU HV HL;generalize sw D i P=D3 at *;go_wp2;go_region;generalize (((w2.setCell ⟨b,off+i,none⟩ (Value.int .i32 v)).setCell ⟨b,off+P,none⟩ (Value.int .i32 u)).drew)=w3 at *;clear m1 m2 m3 m4 m5;go_wp2;go_roundw;case rel=>exact⟨i+1,R2,D3,by go_num,by omega,by omega,hR2,S3,HW2,K3⟩
    case measure=>simp[intOf];omega
   ·have hz:¬ (l:Int)<=(o:Int):=by omega
    have hzd:decide ((o:Int) ≥ (l:Int))=false:=decide_eq_false hz;have hze:decide ((l:Int)<=(o:Int))=false:=decide_eq_false hz;go_upto_region 10 with (go_at_call 156;refine CN.out.mono ?_;rintro e w2 ⟨rfl,hS,hc,hf,hlt2⟩;have S2:=hid hS;have K2:=hid (And.intro hc (And.intro hf hlt2));clear hS hc hf hlt2);obtain⟨P,qP⟩:∃ z,z=x+o:=⟨_,rfl⟩
    have ea31:(x:Int)+(o:Int)=(P:Int):=by omega
    have wa31:IntKind.i64.wrap ((x:Int)+(o:Int))=(P:Int):=by rw[IntKind.wrap_i64];omega
    have wb31:IntKind.i64.wrap (P:Int)=(P:Int):=by rw[IntKind.wrap_i64];omega
    have hPx:x<=P/\P<y:=by omega
    have bi:(i:Int)<(N:Int):=by omega
    have bP:(P:Int)<(N:Int):=by omega
    clear qP;obtain⟨u,hu⟩:∃ z,z=D.getD i 0:=⟨_,rfl⟩
    have HU:=hid hu;clear hu;obtain⟨v,hv⟩:∃ z,z=D.getD P 0:=⟨_,rfl⟩
    have HV:=hid hv;clear hv;have HW2:=hid (show Sw x y L (sw D i P) from .step HW.out (by omega) (by omega) (by omega) (by omega));have HL2:Hid ((sw D i P).length=N):=hid (by rw[sw_len];exact HL.out);clear HW;have k1:=K2.out.1;have k2:=K2.out.2.1;have k3:=K2.out.2.2
    have K3:Hid ((((w2.setCell ⟨b,off+i,none⟩ (Value.int .i32 v)).setCell ⟨b,off+P,none⟩ (Value.int .i32 u)).drew).cell? ⟨w.heap.size,0,none⟩=some (.int .u64 R2)/\(((w2.setCell ⟨b,off+i,none⟩ (Value.int .i32 v)).setCell ⟨b,off+P,none⟩ (Value.int .i32 u)).drew).frozen? ⟨w.heap.size,0,none⟩=false/\w.heap.size<(((w2.setCell ⟨b,off+i,none⟩ (Value.int .i32 v)).setCell ⟨b,off+P,none⟩ (Value.int .i32 u)).drew).heap.size):=hid ⟨by
     show ((w2.setCell _ _).setCell _ _).cell? _=_;exact set_other2 (set_other2 k1 hbB) hbB,by
     show ((w2.setCell _ _).setCell _ _).frozen? _=_
     rw[World.frozen?_setCell,World.frozen?_setCell];exact k2,by show _<((w2.setCell _ _).setCell _ _).heap.size;rw[size_setZ,size_setZ];exact k3⟩
    clear k1 k2 k3 K2;have S3:=hid (S2.out.swap (i:=i) (j:=P) (by rw[HL.out];omega) (by rw[HL.out];omega));rw[<- HU.out,<- HV.out] at S3;have m1:=S2.out.cell (i:=i) (by rw[HL.out];omega);have m2:=S2.out.cell (i:=P) (by rw[HL.out];omega);rw[<- HU.out] at m1;rw[<- HV.out] at m2;have m3:=S2.out.frz (i:=i) (by rw[HL.out];omega);have m4:=S2.out.frz (i:=P) (by rw[HL.out];omega);obtain⟨t,m5⟩:=S2.out.c2 (i:=i) (j:=P) (by rw[HL.out];omega) (by rw[HL.out];omega) (.int .i32 v);clear S2;clear HU HV HL;generalize sw D i P=D3 at *;go_wp2;go_region;generalize (((w2.setCell ⟨b,off+i,none⟩ (Value.int .i32 v)).setCell ⟨b,off+P,none⟩ (Value.int .i32 u)).drew)=w3 at *;clear m1 m2 m3 m4 m5;go_wp2;go_roundw;case rel=>exact⟨i+1,R2,D3,by go_num,by omega,by omega,hR2,S3,HW2,K3⟩
    case measure=>simp[intOf];omega
  ·have gi:¬ (i:Int)<=(a2:Int):=by omega
   have gid:decide ((i:Int)<=(a2:Int))=false:=decide_eq_false gi;go_wp2;go_end0;exact⟨rfl,D,S1.out,HW.out⟩
end Go.Proofs.YthomjcjnalfipaaGreatDoor
