/- A part of the proofs of the Top laws. -/
import Derived.Test.YthomjcjnalfipaaGreatDoorRows
import Derived.ProofKit
import Derived.OpenShut
import Derived.ChangeOld
import Derived.Deep.Fields
import Derived.Test.YthomjcjnalfipaaGreatDoorYB02
set_option linter.all false
set_option maxRecDepth 1000000
set_option maxHeartbeats 8000000
open Go.Lib (hid)
namespace Go.Proofs.YthomjcjnalfipaaGreatDoor
open Go.RowKit Go.Sort
theorem siftDown_r (w0:World) (b off N cap:Nat) (L0 L:List Int) (w:World) (lo hi f:Nat) (S:SE .i32 w0 b off L0 i32 L w) (hN:L.length=N) (hf:f+hi<=N) (hlo:lo<=hi) (hm:N<1152921504606846976) (hH:Hp f (lo+1) hi L) :
  Calls Tryz.prog 180 #[.slice (some ⟨b,off,none⟩) N cap,.int .i64 lo,.int .i64 hi,.int .i64 f] w fun e w'=>e=.returned (.tuple #[])/\∃ D,SE .i32 w0 b off L0 i32 D w'/\Sw f (f+hi) L D/\Hp f lo hi D:=by
 have S0:=hid S;have HN:=hid hN;have HR0:=hid (HpR.start hH);clear S hN hH;go_enter Tryz.func180,Tryz.ntmps180;go_wp2;go_loopw [8] (fun vi wr=>∃ (r:Nat) (D:List Int),vi=.int .i64 r/\lo<=r/\r<=hi/\Hid (SE .i32 w0 b off L0 i32 D wr)/\Hid (Sw f (f+hi) L D)/\Hid (HpR f lo hi r D)) (fun vi _=>hi-(intOf vi).toNat);case atStart=>exact⟨lo,L,rfl,by omega,by omega,S0,hid (.refl L),HR0⟩
 case round=>
  clear S0 HR0;obtain⟨r,D,rfl,h1,h2,S1,HW,HR⟩:=hrel;have HL:Hid (D.length=N):=hid (HW.out.len.trans HN.out);obtain⟨c,qc⟩:∃ z,z=2*r+1:=⟨_,rfl⟩
  have wa1:IntKind.i64.wrap (2*(r:Int))=2*(r:Int):=by rw[IntKind.wrap_i64];omega
  have ea2:2*(r:Int)+1=(c:Int):=by omega
  have wa2:IntKind.i64.wrap (2*(r:Int)+1)=(c:Int):=by rw[IntKind.wrap_i64];omega
  have wb2:IntKind.i64.wrap (c:Int)=(c:Int):=by rw[IntKind.wrap_i64];omega
  by_cases hc:c<hi
  ·have gc:¬ ((hi:Int)<=(c:Int)):=by omega
   have gc2:decide ((hi:Int)<=(c:Int))=false:=decide_eq_false gc;have gc3:decide ((c:Int) ≥ (hi:Int))=false:=decide_eq_false gc;obtain⟨d,qd⟩:∃ z,z=c+1:=⟨_,rfl⟩
   obtain⟨R,qR⟩:∃ z,z=f+r:=⟨_,rfl⟩
   obtain⟨P,qP⟩:∃ z,z=f+c:=⟨_,rfl⟩
   obtain⟨Q,qQ⟩:∃ z,z=f+d:=⟨_,rfl⟩
   have ea3:(c:Int)+1=(d:Int):=by omega
   have wa3:IntKind.i64.wrap ((c:Int)+1)=(d:Int):=by rw[IntKind.wrap_i64];omega
   have wb3:IntKind.i64.wrap (d:Int)=(d:Int):=by rw[IntKind.wrap_i64];omega
   have ea4:(f:Int)+(r:Int)=(R:Int):=by omega
   have wa4:IntKind.i64.wrap ((f:Int)+(r:Int))=(R:Int):=by rw[IntKind.wrap_i64];omega
   have wb4:IntKind.i64.wrap (R:Int)=(R:Int):=by rw[IntKind.wrap_i64];omega
   have ea5:(f:Int)+(c:Int)=(P:Int):=by omega
   have wa5:IntKind.i64.wrap ((f:Int)+(c:Int))=(P:Int):=by rw[IntKind.wrap_i64];omega
   have wb5:IntKind.i64.wrap (P:Int)=(P:Int):=by rw[IntKind.wrap_i64];omega
   have ea6:(f:Int)+(d:Int)=(Q:Int):=by omega
   have wa6:IntKind.i64.wrap ((f:Int)+(d:Int))=(Q:Int):=by rw[IntKind.wrap_i64];omega
   have wb6:IntKind.i64.wrap (Q:Int)=(Q:Int):=by rw[IntKind.wrap_i64];omega
   have ea7:(P:Int)+1=(Q:Int):=by omega
   have wa7:IntKind.i64.wrap ((P:Int)+1)=(Q:Int):=by rw[IntKind.wrap_i64];omega
   have wb7:IntKind.i64.wrap (Q:Int)=(Q:Int):=by rw[IntKind.wrap_i64];omega
   have bR:(R:Int)<(N:Int):=by omega
   have bP:(P:Int)<(N:Int):=by omega
   have hb1:c=2*r+1:=qc;have HQR:=hid qR.symm;have HQP:=hid qP.symm;have HQQ:=hid qQ.symm;have hd1:d<hi\/hi<=d:=by omega
   have hRf:f<=R/\R<f+hi:=by omega
   have hPf:f<=P/\P<f+hi:=by omega
   have hQf:d<hi->f<=Q/\Q<f+hi:=by omega
   have hcr:r<c/\c<d:=by omega
   have hcd:∀ c',(c'=2*r+1\/c'=2*r+2)->c'=c\/c'=d:=fun c' h=>by omega
   have hc1:c=2*r+1\/c=2*r+2:=by omega
   have hd2:d=2*r+1\/d=2*r+2:=by omega
   clear hb1;clear qc qd qR qP qQ;obtain⟨u,hu⟩:∃ z,z=D.getD R 0:=⟨_,rfl⟩
   have HU:=hid hu;clear hu;by_cases hd:d<hi
   ·have gd:(d:Int)<(hi:Int):=by omega
    have gd2:decide ((d:Int)<(hi:Int))=true:=decide_eq_true gd;have bQ:(Q:Int)<(N:Int):=by have:=hQf hd;omega
    have hQg:=hQf hd;obtain⟨x,hx⟩:∃ z,z=D.getD P 0:=⟨_,rfl⟩
    have HX:=hid hx;clear hx;obtain⟨y,hy⟩:∃ z,z=D.getD Q 0:=⟨_,rfl⟩
    have HY:=hid hy;clear hy;have c1:=fun pF:Far wr=>(S1.out.more pF.ext).cell (i:=P) (by rw[HL.out];omega);rw[<- HX.out] at c1;have c2:=fun pF:Far wr=>(S1.out.more pF.ext).cell (i:=Q) (by rw[HL.out];omega);rw[<- HY.out] at c2;by_cases hxy:x<y
    ·have hxd:decide (x<y)=true:=decide_eq_true hxy
     have GT:Hid (∀ c',(c'=2*r+1\/c'=2*r+2)->c'<hi->D.getD (f+c') 0<=D.getD Q 0):=hid (fun c' h3 h4=>by
      rcases hcd c' h3 with e | e
      ·rw[e,HQP.out,<- HX.out,<- HY.out];omega
      ·rw[e,HQQ.out];exact Int.le_refl _)
     clear HX HY;go_wp2;refine wp_region_far (by kernel_rfl) (by kernel_rfl) ?_
     repeat (quiet_step (first | (go_at_call 175;refine Calls.far_of (Less_far _ _ _))))
     refine wpQuiet_nil ?_;intro w2 hw';obtain⟨pf,hw2⟩:=hw';have hx2:Ext wr w2:=by rw[hw2];exact pf.ext
     clear hw2 pf;have S2:=hid (S1.out.more hx2);clear hx2;clear c1 c2;obtain⟨v,hv⟩:∃ z,z=D.getD Q 0:=⟨_,rfl⟩
     have HV:=hid hv;clear hv;have k1:=fun pF:Far w2=>(S2.out.more pF.ext).cell (i:=R) (by rw[HL.out];omega);rw[<- HU.out] at k1;have k2:=fun pF:Far w2=>(S2.out.more pF.ext).cell (i:=Q) (by rw[HL.out];omega);rw[<- HV.out] at k2;by_cases hlv:u<v
     ·have hvd:decide (u<v)=true:=decide_eq_true hlv
      have HR2:=hid (show HpR f lo hi d (sw D R Q) from by
       have h1:=HR.out.go (c:=d) h1 (by omega) (by omega) (by rw[HL.out];omega) (by rw[HQR.out,HQQ.out,<- HU.out,<- HV.out];exact hlv) (by rw[HQQ.out];exact GT.out)
       rw[HQR.out,HQQ.out] at h1;exact h1)
      have HW2:=hid (show Sw f (f+hi) L (sw D R Q) from .step HW.out (by omega) (by omega) (by omega) (by omega));clear HR HW;go_wp2;refine wp_region_far (by kernel_rfl) (by kernel_rfl) ?_
      repeat (quiet_step (first | (go_at_call 175;refine Calls.far_of (Less_far _ _ _))))
      refine wpQuiet_nil ?_;intro w3 hw';obtain⟨pf,hw2⟩:=hw';have hx2:Ext w2 w3:=by rw[hw2];exact pf.ext
      clear hw2 pf;have S3:=hid (S2.out.more hx2);clear hx2;have S4:=hid (S3.out.swap (i:=R) (j:=Q) (by rw[HL.out];omega) (by rw[HL.out];omega));rw[<- HU.out,<- HV.out] at S4;have m1:=S3.out.cell (i:=R) (by rw[HL.out];omega);have m2:=S3.out.cell (i:=Q) (by rw[HL.out];omega);rw[<- HU.out] at m1;rw[<- HV.out] at m2;have m3:=S3.out.frz (i:=R) (by rw[HL.out];omega);have m4:=S3.out.frz (i:=Q) (by rw[HL.out];omega);obtain⟨t,m5⟩:=S3.out.c2 (i:=R) (j:=Q) (by rw[HL.out];omega) (by rw[HL.out];omega) (.int .i32 v);clear S3;clear k1 k2 HU HV;generalize sw D R Q=D3 at *;go_wp2;go_region;generalize (((w3.setCell ⟨b,off+R,none⟩ (Value.int .i32 v)).setCell ⟨b,off+Q,none⟩ (Value.int .i32 u)).drew)=w4 at *;go_wp2;go_roundw;case rel=>exact⟨d,D3,by first | rfl | go_num,by omega,by omega,S4,HW2,HR2⟩
      case measure=>simp[intOf];omega
     ·have hvd:decide (u<v)=false:=decide_eq_false hlv
      have HS:=hid (show Hp f lo hi D from HR.out.stop (fun c' hc1 hc2=>by
       have h1:D.getD (f+c') 0<=D.getD Q 0:=GT.out c' (by omega) hc2;rw[<- HV.out] at h1
       rw[HQR.out,<- HU.out];omega))
      clear HR HU HV;go_wp2;refine wp_region_far (by kernel_rfl) (by kernel_rfl) ?_
      repeat (quiet_step (first | (go_at_call 175;refine Calls.far_of (Less_far _ _ _))))
      refine wpQuiet_nil ?_;intro w3 hw';obtain⟨pf,hw2⟩:=hw';have hx2:Ext w2 w3:=by rw[hw2];exact pf.ext
      clear hw2 pf;have S3:=hid (S2.out.more hx2);clear hx2;clear k1 k2;go_wp2;refine bodyPost_ret (v:=.tuple #[]) (by simp[results,Tryz.results180,go_sem]) rfl ?_;exact⟨rfl,D,S3.out,HW.out,HS.out⟩
    ·have hxd:decide (x<y)=false:=decide_eq_false hxy
     have GT:Hid (∀ c',(c'=2*r+1\/c'=2*r+2)->c'<hi->D.getD (f+c') 0<=D.getD P 0):=hid (fun c' h3 h4=>by
      rcases hcd c' h3 with e | e
      ·rw[e,HQP.out];exact Int.le_refl _
      ·rw[e,HQQ.out,<- HX.out,<- HY.out];omega)
     clear HX HY;go_wp2;refine wp_region_far (by kernel_rfl) (by kernel_rfl) ?_
     repeat (quiet_step (first | (go_at_call 175;refine Calls.far_of (Less_far _ _ _))))
     refine wpQuiet_nil ?_;intro w2 hw';obtain⟨pf,hw2⟩:=hw';have hx2:Ext wr w2:=by rw[hw2];exact pf.ext
     clear hw2 pf;have S2:=hid (S1.out.more hx2);clear hx2;clear c1 c2;obtain⟨v,hv⟩:∃ z,z=D.getD P 0:=⟨_,rfl⟩
     have HV:=hid hv;clear hv;have k1:=fun pF:Far w2=>(S2.out.more pF.ext).cell (i:=R) (by rw[HL.out];omega);rw[<- HU.out] at k1;have k2:=fun pF:Far w2=>(S2.out.more pF.ext).cell (i:=P) (by rw[HL.out];omega);rw[<- HV.out] at k2;by_cases hlv:u<v
     ·have hvd:decide (u<v)=true:=decide_eq_true hlv
      have HR2:=hid (show HpR f lo hi c (sw D R P) from by
       have h1:=HR.out.go (c:=c) h1 (by omega) (by omega) (by rw[HL.out];omega) (by rw[HQR.out,HQP.out,<- HU.out,<- HV.out];exact hlv) (by rw[HQP.out];exact GT.out)
       rw[HQR.out,HQP.out] at h1;exact h1)
      have HW2:=hid (show Sw f (f+hi) L (sw D R P) from .step HW.out (by omega) (by omega) (by omega) (by omega));clear HR HW;go_wp2;refine wp_region_far (by kernel_rfl) (by kernel_rfl) ?_
      repeat (quiet_step (first | (go_at_call 175;refine Calls.far_of (Less_far _ _ _))))
      refine wpQuiet_nil ?_;intro w3 hw';obtain⟨pf,hw2⟩:=hw';have hx2:Ext w2 w3:=by rw[hw2];exact pf.ext
      clear hw2 pf;have S3:=hid (S2.out.more hx2);clear hx2;have S4:=hid (S3.out.swap (i:=R) (j:=P) (by rw[HL.out];omega) (by rw[HL.out];omega));rw[<- HU.out,<- HV.out] at S4;have m1:=S3.out.cell (i:=R) (by rw[HL.out];omega);have m2:=S3.out.cell (i:=P) (by rw[HL.out];omega);rw[<- HU.out] at m1;rw[<- HV.out] at m2;have m3:=S3.out.frz (i:=R) (by rw[HL.out];omega);have m4:=S3.out.frz (i:=P) (by rw[HL.out];omega);obtain⟨t,m5⟩:=S3.out.c2 (i:=R) (j:=P) (by rw[HL.out];omega) (by rw[HL.out];omega) (.int .i32 v);clear S3;clear k1 k2 HU HV;generalize sw D R P=D3 at *;go_wp2;go_region;generalize (((w3.setCell ⟨b,off+R,none⟩ (Value.int .i32 v)).setCell ⟨b,off+P,none⟩ (Value.int .i32 u)).drew)=w4 at *;go_wp2;go_roundw;case rel=>exact⟨c,D3,by first | rfl | go_num,by omega,by omega,S4,HW2,HR2⟩
      case measure=>simp[intOf];omega
     ·have hvd:decide (u<v)=false:=decide_eq_false hlv
      have HS:=hid (show Hp f lo hi D from HR.out.stop (fun c' hc1 hc2=>by
       have h1:D.getD (f+c') 0<=D.getD P 0:=GT.out c' (by omega) hc2;rw[<- HV.out] at h1
       rw[HQR.out,<- HU.out];omega))
      clear HR HU HV;go_wp2;refine wp_region_far (by kernel_rfl) (by kernel_rfl) ?_
      repeat (quiet_step (first | (go_at_call 175;refine Calls.far_of (Less_far _ _ _))))
      refine wpQuiet_nil ?_;intro w3 hw';obtain⟨pf,hw2⟩:=hw';have hx2:Ext w2 w3:=by rw[hw2];exact pf.ext
      clear hw2 pf;have S3:=hid (S2.out.more hx2);clear hx2;clear k1 k2;go_wp2;refine bodyPost_ret (v:=.tuple #[]) (by simp[results,Tryz.results180,go_sem]) rfl ?_;exact⟨rfl,D,S3.out,HW.out,HS.out⟩
   ·have gd:¬ (d:Int)<(hi:Int):=by omega
    have gd2:decide ((d:Int)<(hi:Int))=false:=decide_eq_false gd
    have GT:Hid (∀ c',(c'=2*r+1\/c'=2*r+2)->c'<hi->D.getD (f+c') 0<=D.getD P 0):=hid (fun c' h3 h4=>by
     rcases hcd c' h3 with e | e
     ·rw[e,HQP.out];exact Int.le_refl _
     ·omega)
    go_wp2;go_region;have S2:=hid (S1.out.more ((Ext.refl _).drew));clear S1;generalize wr.drew=w2 at *;obtain⟨v,hv⟩:∃ z,z=D.getD P 0:=⟨_,rfl⟩
    have HV:=hid hv;clear hv;have k1:=fun pF:Far w2=>(S2.out.more pF.ext).cell (i:=R) (by rw[HL.out];omega);rw[<- HU.out] at k1;have k2:=fun pF:Far w2=>(S2.out.more pF.ext).cell (i:=P) (by rw[HL.out];omega);rw[<- HV.out] at k2;by_cases hlv:u<v
    ·have hvd:decide (u<v)=true:=decide_eq_true hlv
     have HR2:=hid (show HpR f lo hi c (sw D R P) from by
      have h1:=HR.out.go (c:=c) h1 (by omega) (by omega) (by rw[HL.out];omega) (by rw[HQR.out,HQP.out,<- HU.out,<- HV.out];exact hlv) (by rw[HQP.out];exact GT.out)
      rw[HQR.out,HQP.out] at h1;exact h1)
     have HW2:=hid (show Sw f (f+hi) L (sw D R P) from .step HW.out (by omega) (by omega) (by omega) (by omega));clear HR HW;go_wp2;refine wp_region_far (by kernel_rfl) (by kernel_rfl) ?_
     repeat (quiet_step (first | (go_at_call 175;refine Calls.far_of (Less_far _ _ _))))
     refine wpQuiet_nil ?_;intro w3 hw';obtain⟨pf,hw2⟩:=hw';have hx2:Ext w2 w3:=by rw[hw2];exact pf.ext
     clear hw2 pf;have S3:=hid (S2.out.more hx2);clear hx2;have S4:=hid (S3.out.swap (i:=R) (j:=P) (by rw[HL.out];omega) (by rw[HL.out];omega));rw[<- HU.out,<- HV.out] at S4;have m1:=S3.out.cell (i:=R) (by rw[HL.out];omega);have m2:=S3.out.cell (i:=P) (by rw[HL.out];omega);rw[<- HU.out] at m1;rw[<- HV.out] at m2;have m3:=S3.out.frz (i:=R) (by rw[HL.out];omega);have m4:=S3.out.frz (i:=P) (by rw[HL.out];omega);obtain⟨t,m5⟩:=S3.out.c2 (i:=R) (j:=P) (by rw[HL.out];omega) (by rw[HL.out];omega) (.int .i32 v);clear S3;clear k1 k2 HU HV;generalize sw D R P=D3 at *;go_wp2;go_region;generalize (((w3.setCell ⟨b,off+R,none⟩ (Value.int .i32 v)).setCell ⟨b,off+P,none⟩ (Value.int .i32 u)).drew)=w4 at *;go_wp2;go_roundw;case rel=>exact⟨c,D3,by first | rfl | go_num,by omega,by omega,S4,HW2,HR2⟩
     case measure=>simp[intOf];omega
    ·have hvd:decide (u<v)=false:=decide_eq_false hlv
     have HS:=hid (show Hp f lo hi D from HR.out.stop (fun c' hc1 hc2=>by
      have h1:D.getD (f+c') 0<=D.getD P 0:=GT.out c' (by omega) hc2;rw[<- HV.out] at h1
      rw[HQR.out,<- HU.out];omega))
     clear HR HU HV;go_wp2;refine wp_region_far (by kernel_rfl) (by kernel_rfl) ?_
     repeat (quiet_step (first | (go_at_call 175;refine Calls.far_of (Less_far _ _ _))))
     refine wpQuiet_nil ?_;intro w3 hw';obtain⟨pf,hw2⟩:=hw';have hx2:Ext w2 w3:=by rw[hw2];exact pf.ext
     clear hw2 pf;have S3:=hid (S2.out.more hx2);clear hx2;clear k1 k2;go_wp2;refine bodyPost_ret (v:=.tuple #[]) (by simp[results,Tryz.results180,go_sem]) rfl ?_;exact⟨rfl,D,S3.out,HW.out,HS.out⟩
  ·have gc:(hi:Int)<=(c:Int):=by omega
   have gc2:decide ((hi:Int)<=(c:Int))=true:=decide_eq_true gc;have gc3:decide ((c:Int) ≥ (hi:Int))=true:=decide_eq_true gc;have HS:=hid (show Hp f lo hi D from HR.out.stop (fun c' hc1 hc2=>by omega));clear HR qc;go_wp2;go_end0;exact⟨rfl,D,S1.out,HW.out,HS.out⟩
theorem heapSort_r (w0:World) (b off N cap:Nat) (L0 L:List Int) (w:World) (x y:Nat) (S:SE .i32 w0 b off L0 i32 L w) (hN:L.length=N) (hxy:x<y) (hy:y<=N) (hm:N<1152921504606846976) :
  Calls Tryz.prog 170 #[.slice (some ⟨b,off,none⟩) N cap,.int .i64 x,.int .i64 y] w fun e w'=>e=.returned (.tuple #[])/\∃ D,SE .i32 w0 b off L0 i32 D w'/\Sw x y L D/\Sd x y D:=by
 have S0:=hid S;have HN:=hid hN;clear S hN;obtain⟨hi,hhi⟩:∃ z,x+z=y:=⟨y-x,by omega⟩
 have HH:=hid hhi;have ea8:(y:Int)-(x:Int)=(hi:Int):=by omega
 have wa8:IntKind.i64.wrap ((y:Int)-(x:Int))=(hi:Int):=by rw[IntKind.wrap_i64];omega
 have wb8:IntKind.i64.wrap (hi:Int)=(hi:Int):=by rw[IntKind.wrap_i64];omega
 obtain⟨h1,hh1⟩:∃ z,z+1=hi:=⟨hi-1,by omega⟩
 have ea9:(hi:Int)-1=(h1:Int):=by omega
 have wa9:IntKind.i64.wrap ((hi:Int)-1)=(h1:Int):=by rw[IntKind.wrap_i64];omega
 have wb9:IntKind.i64.wrap (h1:Int)=(h1:Int):=by rw[IntKind.wrap_i64];omega
 have hx1:x<=N:=by omega
 have hb1:h1<hi:=by omega
 have hb2:hi<=N:=by omega
 have HH1:=hid hh1;clear hhi hh1;have HP0:=hid (show Hp x (h1 / 2+1) hi L from fun k c h1' h2 h3=>by have:=HH1.out;omega);obtain⟨c0,hc0⟩:∃ z,z=h1 / 2+1:=⟨_,rfl⟩
 have e0:(h1:Int) / 2=(c0:Int)-1:=by omega
 have e1:Int.tdiv (h1:Int) 2=(c0:Int)-1:=by rw[Int.tdiv_eq_ediv_of_nonneg (by omega)];exact e0
 have hc1:c0<=hi:=by have:=HH1.out;omega
 rw[<- hc0] at HP0;clear hc0;go_enter Tryz.func170,Tryz.ntmps170;go_wp2;clear e0 e1;go_loopw [9] (fun vi wr=>∃ (c:Nat) (D:List Int),vi=.int .i64 ((c:Int)-1)/\c<=hi/\Hid (SE .i32 w0 b off L0 i32 D wr)/\Hid (Sw x y L D)/\Hid (Hp x c hi D)) (fun vi _=>(intOf vi+1).toNat);case atStart=>exact⟨c0,L,by first | rfl | (congr 1;omega),hc1,S0,hid (.refl L),HP0⟩
 case round=>
  clear HP0;obtain⟨c,D,rfl,hc,S1,HW,HP⟩:=hrel;have HL:Hid (D.length=N):=hid (HW.out.len.trans HN.out);by_cases hz:0<c
  ·obtain⟨d,hd⟩:∃ z,z+1=c:=⟨c-1,by omega⟩
   subst hd;have ec:((d+1:Nat):Int)-1=(d:Int):=by omega
   rw[ec] at *;clear ec;have C:=hid (siftDown_r w0 b off N cap L0 D wr d hi x S1.out HL.out (by have:=HH.out;omega) (by omega) hm HP.out);clear S1 HP;go_wp2_with (go_at_call 180;refine C.out.mono ?_;rintro e w1 ⟨rfl,D1,S2,W2,P2⟩);go_roundw;case rel=>exact⟨d,D1,by first | rfl | go_num,by omega,hid S2,hid (HW.out.trans (W2.mono (Nat.le_refl _) (by have:=HH.out;omega))),hid P2⟩
   case measure=>simp[intOf] <;> omega
  ·obtain rfl:c=0:=by omega
   have HPP:=hid (Pp.start HP.out);clear HP;go_wp2;go_loopw [10] (fun vi wr=>∃ (c:Nat) (D:List Int),vi=.int .i64 ((c:Int)-1)/\c<=hi/\Hid (SE .i32 w0 b off L0 i32 D wr)/\Hid (Sw x y L D)/\Hid (Pp x hi c D)) (fun vi _=>(intOf vi+1).toNat);case atStart=>exact⟨hi,D,by first | rfl | (congr 1;have:=HH1.out;omega),Nat.le_refl _,S1,HW,HPP⟩
   case round=>
    clear S1 HW HPP HL;obtain⟨c,D,rfl,hc,S1,HW,HP⟩:=hrel;have HL:Hid (D.length=N):=hid (HW.out.len.trans HN.out);by_cases hz:0<c
    ·obtain⟨d,hd⟩:∃ z,z+1=c:=⟨c-1,by omega⟩
     subst hd;have ec:((d+1:Nat):Int)-1=(d:Int):=by omega
     rw[ec] at *;clear ec;obtain⟨P,qP⟩:∃ z,z=x+d:=⟨_,rfl⟩
     have ea10:(x:Int)+(d:Int)=(P:Int):=by omega
     have wa10:IntKind.i64.wrap ((x:Int)+(d:Int))=(P:Int):=by rw[IntKind.wrap_i64];omega
     have wb10:IntKind.i64.wrap (P:Int)=(P:Int):=by rw[IntKind.wrap_i64];omega
     have hPy:P<y:=by have:=HH.out;omega
     have hPx:x<=P:=by omega
     have bx:(x:Int)<(N:Int):=by omega
     have bP:(P:Int)<(N:Int):=by omega
     have HQP:=hid qP;clear qP;obtain⟨u,hu⟩:∃ z,z=D.getD x 0:=⟨_,rfl⟩
     have HU:=hid hu;clear hu;obtain⟨v,hv⟩:∃ z,z=D.getD P 0:=⟨_,rfl⟩
     have HV:=hid hv;clear hv;have HM:=hid (HP.out.mid (by omega) (by rw[HL.out];have:=HH.out;omega));rw[<- HQP.out] at HM;have HNX:=hid (fun D' hs hh=>HP.out.next (D':=D') (by omega) (by rw[HL.out];have:=HH.out;omega) hs hh);rw[<- HQP.out] at HNX;have HW2:=hid (show Sw x y L (sw D x P) from .step HW.out (by omega) (by omega) (by omega) (by omega));have HL2:Hid ((sw D x P).length=N):=hid (by rw[sw_len];exact HL.out);clear HW HP;have S3:=hid (S1.out.swap (i:=x) (j:=P) (by rw[HL.out];omega) (by rw[HL.out];omega));rw[<- HU.out,<- HV.out] at S3;have m1:=S1.out.cell (i:=x) (by rw[HL.out];omega);have m2:=S1.out.cell (i:=P) (by rw[HL.out];omega);rw[<- HU.out] at m1;rw[<- HV.out] at m2;have m3:=S1.out.frz (i:=x) (by rw[HL.out];omega);have m4:=S1.out.frz (i:=P) (by rw[HL.out];omega);obtain⟨t,m5⟩:=S1.out.c2 (i:=x) (j:=P) (by rw[HL.out];omega) (by rw[HL.out];omega) (.int .i32 v);clear S1;clear HU HV HL;generalize sw D x P=D3 at *;go_wp2;go_region;generalize (((wr.setCell ⟨b,off+x,none⟩ (Value.int .i32 v)).setCell ⟨b,off+P,none⟩ (Value.int .i32 u)).drew)=w3 at *;clear m1 m2 m3 m4 m5;have C:=hid (siftDown_r w0 b off N cap L0 D3 w3 0 d x S3.out HL2.out (by have:=HH.out;omega) (by omega) hm HM.out);clear S3;go_wp2_with (go_at_call 180;refine C.out.mono ?_;rintro e w4 ⟨rfl,D4,S4,W4,P4⟩);go_roundw;case rel=>exact⟨_,_,_,_,_,_,_,_,_,_,_,_,_,_,_,_,_,_,_,_,_,_,_,_,_,_,_,_,⟨d,D4,by first | rfl | go_num,by omega,hid S4,hid (HW2.out.trans (W4.mono (Nat.le_refl _) (by have:=HH.out;omega))),hid (HNX.out D4 (by rw[HQP.out];exact W4) P4)⟩,rfl⟩
     case measure=>simp[intOf] <;> omega
    ·obtain rfl:c=0:=by omega
     go_wp2;go_end0;exact⟨rfl,D,S1.out,HW.out,by have:=HP.out.done;rwa [HH.out] at this⟩
end Go.Proofs.YthomjcjnalfipaaGreatDoor
