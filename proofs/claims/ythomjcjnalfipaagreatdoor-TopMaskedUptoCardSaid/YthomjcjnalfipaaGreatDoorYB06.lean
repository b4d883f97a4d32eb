/- A part of the proofs of the Top laws. -/
import Derived.Test.YthomjcjnalfipaaGreatDoorRows
import Derived.ProofKit
import Derived.OpenShut
import Derived.ChangeOld
import Derived.Deep.Fields
import Derived.Test.YthomjcjnalfipaaGreatDoorYB05
set_option linter.all false
set_option maxRecDepth 1000000
set_option maxHeartbeats 16000000
open Go.Lib (hid)
namespace Go.Proofs.YthomjcjnalfipaaGreatDoor
open Go.RowKit Go.Sort
def PartialPost (w0:World) (b off:Nat) (L0 L:List Int) (x y:Nat) (e:Ending) (w':World):Prop:=∃ (D:List Int) (r:Bool),e=.returned (.bool r)/\SE .i32 w0 b off L0 i32 D w'/\Sw x y L D/\(r=true->Sd x y D)
theorem partial_r (w0:World) (b off N cap:Nat) (L0 L:List Int) (w:World) (x y:Nat) (S:SE .i32 w0 b off L0 i32 L w) (hN:L.length=N) (hxy:x+1<y) (hy:y<=N) (hm:N<1152921504606846976) (hlo:Lo x y L) :
  Calls Tryz.prog 174 #[.slice (some ⟨b,off,none⟩) N cap,.int .i64 x,.int .i64 y] w fun e w'=>PartialPost w0 b off L0 L x y e w':=by
 have S0:=hid S;have HN:=hid hN;have HLO:=hid hlo;clear S hN hlo;have e1:IntKind.i64.wrap ((x:Int)+1)=(x:Int)+1:=IntWalk.i64_in _ (by omega);go_enter Tryz.func174,Tryz.ntmps174;go_wp2;clear e1;go_loopw [7,8] (fun vi vc wr=>∃ (i0 c:Nat) (D:List Int),vi=.int .i64 i0/\vc=.int .i64 c/\x<i0/\i0<=y/\c<=5/\Hid (SE .i32 w0 b off L0 i32 D wr)/\Hid (Sw x y L D)/\Hid (Sd x i0 D)) (fun _ vc _=>5-(intOf vc).toNat);case atStart=>exact⟨x+1,0,L,by go_num,rfl,by omega,by omega,by omega,S0,hid (.refl L),hid (Sd.nil _ (by omega))⟩
 case round=>
  clear S0;obtain⟨i0,c,D,rfl,rfl,h1,h2,h3,S1,HW,HSd⟩:=hrel;have HL:Hid (D.length=N):=hid (HW.out.len.trans HN.out);by_cases hc5:c<5
  ·have gc:(c:Int)<5:=by omega
   have gcd:decide ((c:Int)<5)=true:=decide_eq_true gc;go_wp2;go_loopw [7] (fun vi wr=>∃ i:Nat,vi=.int .i64 i/\x<i/\i<=y/\Hid (SE .i32 w0 b off L0 i32 D wr)/\Hid (Sd x i D)) (fun vi _=>y-(intOf vi).toNat);case atStart=>exact⟨i0,by first | rfl | go_num,by omega,by omega,S1,HSd⟩
   case round=>
    clear S1 HSd;obtain⟨i,rfl,hi1,hi2,S1,HSd⟩:=hrel;obtain⟨cnd,hcnd⟩:∃ z,z=decide (i<y/\¬ D.getD i 0<D.getD (i-1) 0):=⟨_,rfl⟩
    have HC:=hid hcnd;clear hcnd;go_upto_region 5 with fail;go_cut [32] from 17 to 32 (fun v wx=>v=.bool cnd/\Ext wr wx)
    case first=>
     by_cases hlt:i<y
     ·obtain⟨q,hq⟩:∃ z,z+1=i:=⟨i-1,by omega⟩
      have HQ:=hid hq;have bi:(i:Int)<(N:Int):=by omega
      have bq:(q:Int)<(N:Int):=by omega
      have gi:(i:Int)<(y:Int):=by omega
      have gid:decide ((i:Int)<(y:Int))=true:=decide_eq_true gi;have ea16:(i:Int)-1=(q:Int):=by omega
      have wa16:IntKind.i64.wrap ((i:Int)-1)=(q:Int):=by rw[IntKind.wrap_i64];omega
      have wb16:IntKind.i64.wrap (q:Int)=(q:Int):=by rw[IntKind.wrap_i64];omega
      clear hq;obtain⟨u,hu⟩:∃ z,z=D.getD i 0:=⟨_,rfl⟩
      have HU:=hid hu;clear hu;obtain⟨v,hv⟩:∃ z,z=D.getD q 0:=⟨_,rfl⟩
      have HV:=hid hv;clear hv;have c1:=fun pF:Far wr=>(S1.out.more pF.ext).cell (i:=i) (by rw[HL.out];omega);rw[<- HU.out] at c1;have c2:=fun pF:Far wr=>(S1.out.more pF.ext).cell (i:=q) (by rw[HL.out];omega);rw[<- HV.out] at c2;by_cases hlv:u<v
      ·have hvd:decide (u<v)=true:=decide_eq_true hlv;obtain rfl:cnd=false:=by rw[HC.out];exact decide_eq_false (fun h=>by have h:=h.2;rw[show i-1=q from by have:=HQ.out;omega,<- HU.out,<- HV.out] at h;exact h hlv)
       clear HU HV;go_wp2;refine wp_region_far (by kernel_rfl) (by kernel_rfl) ?_
       repeat (quiet_step (first | (go_at_call 175;refine Calls.far_of (Less_far _ _ _))))
       refine wpQuiet_nil ?_;intro w2 hw';obtain⟨pf,hw2⟩:=hw';have hx2:Ext wr w2:=by rw[hw2];exact pf.ext
       clear hw2 pf;have S2:=hid (S1.out.more hx2);go_wp2;go_meet;case rel=>exact⟨by first | rfl | simp[hvd],hx2⟩
      ·have hvd:decide (u<v)=false:=decide_eq_false hlv;obtain rfl:cnd=true:=by rw[HC.out];exact decide_eq_true ⟨by omega,by rw[show i-1=q from by have:=HQ.out;omega,<- HU.out,<- HV.out];exact hlv⟩
       clear HU HV;go_wp2;refine wp_region_far (by kernel_rfl) (by kernel_rfl) ?_
       repeat (quiet_step (first | (go_at_call 175;refine Calls.far_of (Less_far _ _ _))))
       refine wpQuiet_nil ?_;intro w2 hw';obtain⟨pf,hw2⟩:=hw';have hx2:Ext wr w2:=by rw[hw2];exact pf.ext
       clear hw2 pf;have S2:=hid (S1.out.more hx2);go_wp2;go_meet;case rel=>exact⟨by first | rfl | simp[hvd],hx2⟩
     ·have gi:¬ (i:Int)<(y:Int):=by omega
      have gid:decide ((i:Int)<(y:Int))=false:=decide_eq_false gi;obtain rfl:cnd=false:=by rw[HC.out];exact decide_eq_false (fun h=>hlt h.1)
      go_wp2;go_region;go_wp2;go_meet;case rel=>exact⟨by first | rfl | simp,(Ext.refl _).drew⟩
    case rest=>
     obtain⟨rfl,hx2⟩:=hcut;have S2:=hid (S1.out.more hx2);clear S1 hx2
     cases cnd with
     | true=>
      have hc:=of_decide_eq_true HC.out.symm;have hc1:=hc.1;have HSd2:=hid (HSd.out.more hi1 (by have:=hc.2;omega));clear hc HC HSd;go_wp2;go_roundw;case rel=>exact⟨i+1,by go_num,by omega,by omega,S2,HSd2⟩
      case measure=>simp[intOf];omega
     | false=>
      have HX:=hid (show i<y->D.getD i 0<D.getD (i-1) 0 from fun h=>by
       have:=of_decide_eq_false HC.out.symm
       exact Decidable.of_not_not (fun h2=>this ⟨h,h2⟩))
      clear HC;by_cases hiy:i=y
      ·have gi:((i:Int)==(y:Int))=true:=by rw[hiy];simp
       have gi2:(i:Int)=(y:Int):=by omega
       have HSy:=hid (show Sd x y D from by rw[<- hiy];exact HSd.out);clear hiy HX;go_wp2;go_ret;exact⟨D,true,rfl,S2.out,HW.out,fun _=>HSy.out⟩
      ·have gi:((i:Int)==(y:Int))=false:=by simp;omega
       have gi2:¬ (i:Int)=(y:Int):=by omega
       have hiy2:i<y:=by omega
       by_cases h50:(y:Int)-(x:Int)<50
       ·have h50d:decide ((y:Int)-(x:Int)<50)=true:=decide_eq_true h50;go_wp2;go_ret;exact⟨D,false,rfl,S2.out,HW.out,fun h=>by cases h⟩
       ·have h50d:decide ((y:Int)-(x:Int)<50)=false:=decide_eq_false h50;clear HX;obtain⟨q,hq⟩:∃ z,z+1=i:=⟨i-1,by omega⟩
        have HQ:=hid hq;have hqx:x<=q:=by omega
        have hqi:q<i:=by omega
        have bi:(i:Int)<(N:Int):=by omega
        have bq:(q:Int)<(N:Int):=by omega
        have ea14:(i:Int)-1=(q:Int):=by omega
        have wa14:IntKind.i64.wrap ((i:Int)-1)=(q:Int):=by rw[IntKind.wrap_i64];omega
        have wb14:IntKind.i64.wrap (q:Int)=(q:Int):=by rw[IntKind.wrap_i64];omega
        have HJ:=hid (show InJ x q q (sw D i q) from InJ.start (fun p r h1 h2 h3=>by
         rw[getD_sw (by rw[HL.out];omega) (by rw[HL.out];omega),getD_sw (by rw[HL.out];omega) (by rw[HL.out];omega),if_neg (by omega),if_neg (by omega),if_neg (by omega),if_neg (by omega)]
         exact HSd.out p r h1 h2 (by omega)))
        have HW2:=hid (show Sw x y L (sw D i q) from .step HW.out (by omega) (by omega) (by omega) (by omega));have HL2:Hid ((sw D i q).length=N):=hid (by rw[sw_len];exact HL.out);clear HW HSd hq;obtain⟨u,hu⟩:∃ z,z=D.getD i 0:=⟨_,rfl⟩
        have HU:=hid hu;clear hu;obtain⟨v,hv⟩:∃ z,z=D.getD q 0:=⟨_,rfl⟩
        have HV:=hid hv;clear hv;have S3:=hid (S2.out.swap (i:=i) (j:=q) (by rw[HL.out];omega) (by rw[HL.out];omega));rw[<- HU.out,<- HV.out] at S3;have m1:=S2.out.cell (i:=i) (by rw[HL.out];omega);have m2:=S2.out.cell (i:=q) (by rw[HL.out];omega);rw[<- HU.out] at m1;rw[<- HV.out] at m2;have m3:=S2.out.frz (i:=i) (by rw[HL.out];omega);have m4:=S2.out.frz (i:=q) (by rw[HL.out];omega);obtain⟨t,m5⟩:=S2.out.c2 (i:=i) (j:=q) (by rw[HL.out];omega) (by rw[HL.out];omega) (.int .i32 v);clear S2;clear HU HV HL;generalize sw D i q=D3 at *;go_wp2;go_region;generalize (((wc.setCell ⟨b,off+i,none⟩ (Value.int .i32 v)).setCell ⟨b,off+q,none⟩ (Value.int .i32 u)).drew)=w3 at *;clear m1 m2 m3 m4 m5;have HL:=hid HL2.out;have HW:=hid HW2.out;clear HL2 HW2;by_cases hl2:(2:Int)<=(i:Int)-(x:Int)
        ·have hl2d:decide ((i:Int)-(x:Int) ≥ 2)=true:=decide_eq_true hl2;have hl2e:decide ((2:Int)<=(i:Int)-(x:Int))=true:=decide_eq_true hl2;go_wp2;go_loopw [9] (fun vj wr=>∃ (j:Nat) (D:List Int),vj=.int .i64 j/\x<=j/\j<=q/\Hid (SE .i32 w0 b off L0 i32 D wr)/\Hid (Sw x y L D)/\Hid (InJ x q j D)) (fun vj _=>(intOf vj).toNat);case atStart=>exact⟨q,D3,by first | rfl | go_num,by omega,by omega,S3,HW,HJ⟩
         case round=>
          clear S3 HW HJ HL;obtain⟨j,D,rfl,hj1,hj2,S3,HW,HJ⟩:=hrel;have HL:Hid (D.length=N):=hid (HW.out.len.trans HN.out);by_cases h1:1<=j
          ·obtain⟨r,hr⟩:∃ z,z+1=j:=⟨j-1,by omega⟩
           have HR:=hid hr;have hrj:r<j:=by omega
           have bj:(j:Int)<(N:Int):=by omega
           have br:(r:Int)<(N:Int):=by omega
           have g1:(1:Int)<=(j:Int):=by omega
           have g2:decide ((j:Int) ≥ 1)=true:=decide_eq_true g1;have g3:decide ((1:Int)<=(j:Int))=true:=decide_eq_true g1;have ea11:(j:Int)-1=(r:Int):=by omega
           have wa11:IntKind.i64.wrap ((j:Int)-1)=(r:Int):=by rw[IntKind.wrap_i64];omega
           have wb11:IntKind.i64.wrap (r:Int)=(r:Int):=by rw[IntKind.wrap_i64];omega
           clear hr;obtain⟨u,hu⟩:∃ z,z=D.getD j 0:=⟨_,rfl⟩
           have HU:=hid hu;clear hu;obtain⟨v,hv⟩:∃ z,z=D.getD r 0:=⟨_,rfl⟩
           have HV:=hid hv;clear hv;have c1:=fun pF:Far wr=>(S3.out.more pF.ext).cell (i:=j) (by rw[HL.out];omega);rw[<- HU.out] at c1;have c2:=fun pF:Far wr=>(S3.out.more pF.ext).cell (i:=r) (by rw[HL.out];omega);rw[<- HV.out] at c2;by_cases hlv:u<v
           ·have hvd:decide (u<v)=true:=decide_eq_true hlv;go_wp2;refine wp_region_far (by kernel_rfl) (by kernel_rfl) ?_
            repeat (quiet_step (first | (go_at_call 175;refine Calls.far_of (Less_far _ _ _))))
            refine wpQuiet_nil ?_;intro w4 hw';obtain⟨pf,hw2⟩:=hw';have hx2:Ext wr w4:=by rw[hw2];exact pf.ext
            clear hw2 pf;have S4:=hid (S3.out.more hx2);clear hx2;clear c1 c2
            have hxr:x<=r:=by
             apply Decidable.byContradiction;intro hn;have h2:=HR.out;have h3:=HLO.out.sw HW.out (by rw[HN.out];omega) (by omega) j (by omega) (by omega);rw[show x-1=r from by omega,<- HV.out,<- HU.out] at h3;omega
            have HW2:=hid (show Sw x y L (sw D j r) from .step HW.out (by omega) (by omega) (by omega) (by omega))
            have HJ2:=hid (show InJ x q r (sw D j r) from by
             have h1:=HJ.out;rw[<- HR.out] at h1 ⊢
             exact h1.go hxr (by have:=HR.out;omega) (by rw[HL.out];omega) (by rw[HR.out,<- HU.out,<- HV.out];exact hlv))
            clear HW HJ;have S5:=hid (S4.out.swap (i:=j) (j:=r) (by rw[HL.out];omega) (by rw[HL.out];omega));rw[<- HU.out,<- HV.out] at S5;have m1:=S4.out.cell (i:=j) (by rw[HL.out];omega);have m2:=S4.out.cell (i:=r) (by rw[HL.out];omega);rw[<- HU.out] at m1;rw[<- HV.out] at m2;have m3:=S4.out.frz (i:=j) (by rw[HL.out];omega);have m4:=S4.out.frz (i:=r) (by rw[HL.out];omega);obtain⟨t,m5⟩:=S4.out.c2 (i:=j) (j:=r) (by rw[HL.out];omega) (by rw[HL.out];omega) (.int .i32 v);clear S4;clear HU HV HL;generalize sw D j r=D3 at *;go_wp2;go_region;generalize (((w4.setCell ⟨b,off+j,none⟩ (Value.int .i32 v)).setCell ⟨b,off+r,none⟩ (Value.int .i32 u)).drew)=w5 at *;clear m1 m2 m3 m4 m5;go_wp2;go_roundw;case rel=>exact⟨r,D3,by first | rfl | go_num,by omega,by omega,S5,HW2,HJ2⟩
            case measure=>simp[intOf] <;> omega
           ·have hvd:decide (u<v)=false:=decide_eq_false hlv;go_wp2;refine wp_region_far (by kernel_rfl) (by kernel_rfl) ?_
            repeat (quiet_step (first | (go_at_call 175;refine Calls.far_of (Less_far _ _ _))))
            refine wpQuiet_nil ?_;intro w4 hw';obtain⟨pf,hw2⟩:=hw';have hx2:Ext wr w4:=by rw[hw2];exact pf.ext
            clear hw2 pf;have S4:=hid (S3.out.more hx2);clear hx2;clear c1 c2
            have HSd:=hid (show Sd x i D from by
             have h1:=HJ.out.stop hj1 hj2 (.inr (by rw[show j-1=r from by have:=HR.out;omega,<- HU.out,<- HV.out];omega))
             rwa [HQ.out] at h1)
            clear HJ HU HV;by_cases hr2:(2:Int)<=(y:Int)-(i:Int)
            ·have hr2d:decide ((y:Int)-(i:Int) ≥ 2)=true:=decide_eq_true hr2;have hr2e:decide ((2:Int)<=(y:Int)-(i:Int))=true:=decide_eq_true hr2;go_wp2;go_loopw [10] (fun vj wr=>∃ (j:Nat) (D:List Int),vj=.int .i64 j/\i<j/\j<=y/\Hid (SE .i32 w0 b off L0 i32 D wr)/\Hid (Sw x y L D)/\Hid (Sd x i D)) (fun vj _=>y-(intOf vj).toNat);case atStart=>exact⟨i+1,D,by go_num,by omega,by omega,S4,HW,HSd⟩
             case round=>
              clear S4 HW HSd HL;obtain⟨j,D,rfl,hj1,hj2,S4,HW,HSd⟩:=hrel;have HL:Hid (D.length=N):=hid (HW.out.len.trans HN.out);by_cases hj:j<y
              ·obtain⟨r,hr⟩:∃ z,z+1=j:=⟨j-1,by omega⟩
               have HR:=hid hr;have hri:i<=r:=by omega
               have hrj:r<j:=by omega
               have bj:(j:Int)<(N:Int):=by omega
               have br:(r:Int)<(N:Int):=by omega
               have ea12:(j:Int)-1=(r:Int):=by omega
               have wa12:IntKind.i64.wrap ((j:Int)-1)=(r:Int):=by rw[IntKind.wrap_i64];omega
               have wb12:IntKind.i64.wrap (r:Int)=(r:Int):=by rw[IntKind.wrap_i64];omega
               clear hr;obtain⟨u,hu⟩:∃ z,z=D.getD j 0:=⟨_,rfl⟩
               have HU:=hid hu;clear hu;obtain⟨v,hv⟩:∃ z,z=D.getD r 0:=⟨_,rfl⟩
               have HV:=hid hv;clear hv;have c1:=fun pF:Far wr=>(S4.out.more pF.ext).cell (i:=j) (by rw[HL.out];omega);rw[<- HU.out] at c1;have c2:=fun pF:Far wr=>(S4.out.more pF.ext).cell (i:=r) (by rw[HL.out];omega);rw[<- HV.out] at c2;by_cases hlv:u<v
               ·have hvd:decide (u<v)=true:=decide_eq_true hlv;go_wp2;refine wp_region_far (by kernel_rfl) (by kernel_rfl) ?_
                repeat (quiet_step (first | (go_at_call 175;refine Calls.far_of (Less_far _ _ _))))
                refine wpQuiet_nil ?_;intro w4 hw';obtain⟨pf,hw2⟩:=hw';have hx2:Ext wr w4:=by rw[hw2];exact pf.ext
                clear hw2 pf;have S4:=hid (S4.out.more hx2);clear hx2;clear c1 c2;have HW2:=hid (show Sw x y L (sw D j r) from .step HW.out (by omega) (by omega) (by omega) (by omega));have HSd2:=hid (show Sd x i (sw D j r) from HSd.out.keep (fun k h1 h2=>by rw[getD_sw (by rw[HL.out];omega) (by rw[HL.out];omega),if_neg (by omega),if_neg (by omega)]));clear HW HSd;have S5:=hid (S4.out.swap (i:=j) (j:=r) (by rw[HL.out];omega) (by rw[HL.out];omega));rw[<- HU.out,<- HV.out] at S5;have m1:=S4.out.cell (i:=j) (by rw[HL.out];omega);have m2:=S4.out.cell (i:=r) (by rw[HL.out];omega);rw[<- HU.out] at m1;rw[<- HV.out] at m2;have m3:=S4.out.frz (i:=j) (by rw[HL.out];omega);have m4:=S4.out.frz (i:=r) (by rw[HL.out];omega);obtain⟨t,m5⟩:=S4.out.c2 (i:=j) (j:=r) (by rw[HL.out];omega) (by rw[HL.out];omega) (.int .i32 v);clear S4;clear HU HV HL;generalize sw D j r=D3 at *;go_wp2;go_region;generalize (((w4.setCell ⟨b,off+j,none⟩ (Value.int .i32 v)).setCell ⟨b,off+r,none⟩ (Value.int .i32 u)).drew)=w5 at *;clear m1 m2 m3 m4 m5;go_wp2;go_roundw;case rel=>exact⟨j+1,D3,by go_num,by omega,by omega,S5,HW2,HSd2⟩
                case measure=>simp[intOf];omega
               ·have hvd:decide (u<v)=false:=decide_eq_false hlv;go_wp2;refine wp_region_far (by kernel_rfl) (by kernel_rfl) ?_
                repeat (quiet_step (first | (go_at_call 175;refine Calls.far_of (Less_far _ _ _))))
                refine wpQuiet_nil ?_;intro w4 hw';obtain⟨pf,hw2⟩:=hw';have hx2:Ext wr w4:=by rw[hw2];exact pf.ext
                clear hw2 pf;have S4:=hid (S4.out.more hx2);clear hx2;clear c1 c2;clear HU HV;go_wp2;go_roundw;case rel=>exact⟨i,c+1,D,by first | rfl | go_num,by go_num,by omega,by omega,by omega,S4,HW,HSd⟩
                case measure=>simp[intOf];omega
              ·go_wp2;go_roundw;case rel=>exact⟨i,c+1,D,by first | rfl | go_num,by go_num,by omega,by omega,by omega,S4,HW,HSd⟩
               case measure=>simp[intOf];omega
            ·have hr2d:decide ((y:Int)-(i:Int) ≥ 2)=false:=decide_eq_false hr2;have hr2e:decide ((2:Int)<=(y:Int)-(i:Int))=false:=decide_eq_false hr2;go_wp2;go_roundw;case rel=>exact⟨i,c+1,D,by first | rfl | go_num,by go_num,by omega,by omega,by omega,S4,HW,HSd⟩
             case measure=>simp[intOf];omega
          ·have HSd:=hid (show Sd x i D from by
            have h2:=HJ.out.stop hj1 hj2 (.inl (by omega))
            rwa [HQ.out] at h2)
           have g1:¬ (1:Int)<=(j:Int):=by omega
           have g2:decide ((j:Int) ≥ 1)=false:=decide_eq_false g1;have g3:decide ((1:Int)<=(j:Int))=false:=decide_eq_false g1;clear HJ;by_cases hr2:(2:Int)<=(y:Int)-(i:Int)
           ·have hr2d:decide ((y:Int)-(i:Int) ≥ 2)=true:=decide_eq_true hr2;have hr2e:decide ((2:Int)<=(y:Int)-(i:Int))=true:=decide_eq_true hr2;go_wp2;go_loopw [10] (fun vj wr=>∃ (j:Nat) (D:List Int),vj=.int .i64 j/\i<j/\j<=y/\Hid (SE .i32 w0 b off L0 i32 D wr)/\Hid (Sw x y L D)/\Hid (Sd x i D)) (fun vj _=>y-(intOf vj).toNat);case atStart=>exact⟨i+1,D,by go_num,by omega,by omega,S3,HW,HSd⟩
            case round=>
             clear S3 HW HSd HL;obtain⟨j,D,rfl,hj1,hj2,S3,HW,HSd⟩:=hrel;have HL:Hid (D.length=N):=hid (HW.out.len.trans HN.out);by_cases hj:j<y
             ·obtain⟨r,hr⟩:∃ z,z+1=j:=⟨j-1,by omega⟩
              have HR:=hid hr;have hri:i<=r:=by omega
              have hrj:r<j:=by omega
              have bj:(j:Int)<(N:Int):=by omega
              have br:(r:Int)<(N:Int):=by omega
              have ea13:(j:Int)-1=(r:Int):=by omega
              have wa13:IntKind.i64.wrap ((j:Int)-1)=(r:Int):=by rw[IntKind.wrap_i64];omega
              have wb13:IntKind.i64.wrap (r:Int)=(r:Int):=by rw[IntKind.wrap_i64];omega
              clear hr;obtain⟨u,hu⟩:∃ z,z=D.getD j 0:=⟨_,rfl⟩
              have HU:=hid hu;clear hu;obtain⟨v,hv⟩:∃ z,z=D.getD r 0:=⟨_,rfl⟩
              have HV:=hid hv;clear hv;have c1:=fun pF:Far wr=>(S3.out.more pF.ext).cell (i:=j) (by rw[HL.out];omega);rw[<- HU.out] at c1;have c2:=fun pF:Far wr=>(S3.out.more pF.ext).cell (i:=r) (by rw[HL.out];omega);rw[<- HV.out] at c2;by_cases hlv:u<v
              ·have hvd:decide (u<v)=true:=decide_eq_true hlv;go_wp2;refine wp_region_far (by kernel_rfl) (by kernel_rfl) ?_
               repeat (quiet_step (first | (go_at_call 175;refine Calls.far_of (Less_far _ _ _))))
               refine wpQuiet_nil ?_;intro w4 hw';obtain⟨pf,hw2⟩:=hw';have hx2:Ext wr w4:=by rw[hw2];exact pf.ext
               clear hw2 pf;have S4:=hid (S3.out.more hx2);clear hx2;clear c1 c2;have HW2:=hid (show Sw x y L (sw D j r) from .step HW.out (by omega) (by omega) (by omega) (by omega));have HSd2:=hid (show Sd x i (sw D j r) from HSd.out.keep (fun k h1 h2=>by rw[getD_sw (by rw[HL.out];omega) (by rw[HL.out];omega),if_neg (by omega),if_neg (by omega)]));clear HW HSd;have S5:=hid (S4.out.swap (i:=j) (j:=r) (by rw[HL.out];omega) (by rw[HL.out];omega));rw[<- HU.out,<- HV.out] at S5;have m1:=S4.out.cell (i:=j) (by rw[HL.out];omega);have m2:=S4.out.cell (i:=r) (by rw[HL.out];omega);rw[<- HU.out] at m1;rw[<- HV.out] at m2;have m3:=S4.out.frz (i:=j) (by rw[HL.out];omega);have m4:=S4.out.frz (i:=r) (by rw[HL.out];omega);obtain⟨t,m5⟩:=S4.out.c2 (i:=j) (j:=r) (by rw[HL.out];omega) (by rw[HL.out];omega) (.int .i32 v);clear S4;clear HU HV HL;generalize sw D j r=D3 at *;go_wp2;go_region;generalize (((w4.setCell ⟨b,off+j,none⟩ (Value.int .i32 v)).setCell ⟨b,off+r,none⟩ (Value.int .i32 u)).drew)=w5 at *;clear m1 m2 m3 m4 m5;go_wp2;go_roundw;case rel=>exact⟨j+1,D3,by go_num,by omega,by omega,S5,HW2,HSd2⟩
               case measure=>simp[intOf];omega
              ·have hvd:decide (u<v)=false:=decide_eq_false hlv;go_wp2;refine wp_region_far (by kernel_rfl) (by kernel_rfl) ?_
               repeat (quiet_step (first | (go_at_call 175;refine Calls.far_of (Less_far _ _ _))))
               refine wpQuiet_nil ?_;intro w4 hw';obtain⟨pf,hw2⟩:=hw';have hx2:Ext wr w4:=by rw[hw2];exact pf.ext
               clear hw2 pf;have S4:=hid (S3.out.more hx2);clear hx2;clear c1 c2;clear HU HV;go_wp2;go_roundw;case rel=>exact⟨i,c+1,D,by first | rfl | go_num,by go_num,by omega,by omega,by omega,S4,HW,HSd⟩
               case measure=>simp[intOf];omega
             ·go_wp2;go_roundw;case rel=>exact⟨i,c+1,D,by first | rfl | go_num,by go_num,by omega,by omega,by omega,S3,HW,HSd⟩
              case measure=>simp[intOf];omega
           ·have hr2d:decide ((y:Int)-(i:Int) ≥ 2)=false:=decide_eq_false hr2;have hr2e:decide ((2:Int)<=(y:Int)-(i:Int))=false:=decide_eq_false hr2;go_wp2;go_roundw;case rel=>exact⟨i,c+1,D,by first | rfl | go_num,by go_num,by omega,by omega,by omega,S3,HW,HSd⟩
            case measure=>simp[intOf];omega
        ·have hl2d:decide ((i:Int)-(x:Int) ≥ 2)=false:=decide_eq_false hl2;have hl2e:decide ((2:Int)<=(i:Int)-(x:Int))=false:=decide_eq_false hl2;have HSd:=hid (show Sd x i D3 from Sd.nil _ (by omega));clear HJ;obtain⟨D,rfl⟩:∃ D,D=D3:=⟨_,rfl⟩
         by_cases hr2:(2:Int)<=(y:Int)-(i:Int)
         ·have hr2d:decide ((y:Int)-(i:Int) ≥ 2)=true:=decide_eq_true hr2;have hr2e:decide ((2:Int)<=(y:Int)-(i:Int))=true:=decide_eq_true hr2;go_wp2;go_loopw [10] (fun vj wr=>∃ (j:Nat) (D:List Int),vj=.int .i64 j/\i<j/\j<=y/\Hid (SE .i32 w0 b off L0 i32 D wr)/\Hid (Sw x y L D)/\Hid (Sd x i D)) (fun vj _=>y-(intOf vj).toNat);case atStart=>exact⟨i+1,D,by go_num,by omega,by omega,S3,HW,HSd⟩
          case round=>
           clear S3 HW HSd HL;obtain⟨j,D,rfl,hj1,hj2,S3,HW,HSd⟩:=hrel;have HL:Hid (D.length=N):=hid (HW.out.len.trans HN.out);by_cases hj:j<y
           ·obtain⟨r,hr⟩:∃ z,z+1=j:=⟨j-1,by omega⟩
            have HR:=hid hr;have hri:i<=r:=by omega
            have hrj:r<j:=by omega
            have bj:(j:Int)<(N:Int):=by omega
            have br:(r:Int)<(N:Int):=by omega
            have ea15:(j:Int)-1=(r:Int):=by omega
            have wa15:IntKind.i64.wrap ((j:Int)-1)=(r:Int):=by rw[IntKind.wrap_i64];omega
            have wb15:IntKind.i64.wrap (r:Int)=(r:Int):=by rw[IntKind.wrap_i64];omega
            clear hr;obtain⟨u,hu⟩:∃ z,z=D.getD j 0:=⟨_,rfl⟩
            have HU:=hid hu;clear hu;obtain⟨v,hv⟩:∃ z,z=D.getD r 0:=⟨_,rfl⟩
            have HV:=hid hv;clear hv;have c1:=fun pF:Far wr=>(S3.out.more pF.ext).cell (i:=j) (by rw[HL.out];omega);rw[<- HU.out] at c1;have c2:=fun pF:Far wr=>(S3.out.more pF.ext).cell (i:=r) (by rw[HL.out];omega);rw[<- HV.out] at c2;by_cases hlv:u<v
            ·have hvd:decide (u<v)=true:=decide_eq_true hlv;go_wp2;refine wp_region_far (by kernel_rfl) (by kernel_rfl) ?_
             repeat (quiet_step (first | (go_at_call 175;refine Calls.far_of (Less_far _ _ _))))
             refine wpQuiet_nil ?_;intro w4 hw';obtain⟨pf,hw2⟩:=hw';have hx2:Ext wr w4:=by rw[hw2];exact pf.ext
             clear hw2 pf;have S4:=hid (S3.out.more hx2);clear hx2;clear c1 c2;have HW2:=hid (show Sw x y L (sw D j r) from .step HW.out (by omega) (by omega) (by omega) (by omega));have HSd2:=hid (show Sd x i (sw D j r) from HSd.out.keep (fun k h1 h2=>by rw[getD_sw (by rw[HL.out];omega) (by rw[HL.out];omega),if_neg (by omega),if_neg (by omega)]));clear HW HSd;have S5:=hid (S4.out.swap (i:=j) (j:=r) (by rw[HL.out];omega) (by rw[HL.out];omega));rw[<- HU.out,<- HV.out] at S5;have m1:=S4.out.cell (i:=j) (by rw[HL.out];omega);have m2:=S4.out.cell (i:=r) (by rw[HL.out];omega);rw[<- HU.out] at m1;rw[<- HV.out] at m2;have m3:=S4.out.frz (i:=j) (by rw[HL.out];omega);have m4:=S4.out.frz (i:=r) (by rw[HL.out];omega);obtain⟨t,m5⟩:=S4.out.c2 (i:=j) (j:=r) (by rw[HL.out];omega) (by rw[HL.out];omega) (.int .i32 v);clear S4;clear HU HV HL;generalize sw D j r=D3 at *;go_wp2;go_region;generalize (((w4.setCell ⟨b,off+j,none⟩ (Value.int .i32 v)).setCell ⟨b,off+r,none⟩ (Value.int .i32 u)).drew)=w5 at *;clear m1 m2 m3 m4 m5;go_wp2;go_roundw;case rel=>exact⟨j+1,D3,by go_num,by omega,by omega,S5,HW2,HSd2⟩
             case measure=>simp[intOf];omega
            ·have hvd:decide (u<v)=false:=decide_eq_false hlv;go_wp2;refine wp_region_far (by kernel_rfl) (by kernel_rfl) ?_
             repeat (quiet_step (first | (go_at_call 175;refine Calls.far_of (Less_far _ _ _))))
             refine wpQuiet_nil ?_;intro w4 hw';obtain⟨pf,hw2⟩:=hw';have hx2:Ext wr w4:=by rw[hw2];exact pf.ext
             clear hw2 pf;have S4:=hid (S3.out.more hx2);clear hx2;clear c1 c2;clear HU HV;go_wp2;go_roundw;case rel=>exact⟨i,c+1,D,by first | rfl | go_num,by go_num,by omega,by omega,by omega,S4,HW,HSd⟩
             case measure=>simp[intOf];omega
           ·go_wp2;go_roundw;case rel=>exact⟨i,c+1,D,by first | rfl | go_num,by go_num,by omega,by omega,by omega,S3,HW,HSd⟩
            case measure=>simp[intOf];omega
         ·have hr2d:decide ((y:Int)-(i:Int) ≥ 2)=false:=decide_eq_false hr2;have hr2e:decide ((2:Int)<=(y:Int)-(i:Int))=false:=decide_eq_false hr2;go_wp2;go_roundw;case rel=>exact⟨i,c+1,D,by first | rfl | go_num,by go_num,by omega,by omega,by omega,S3,HW,HSd⟩
          case measure=>simp[intOf];omega
  ·have gc:¬ (c:Int)<5:=by omega
   have gcd:decide ((c:Int)<5)=false:=decide_eq_false gc;go_wp2;go_ret;exact⟨D,false,rfl,S1.out,HW.out,fun h=>by cases h⟩
end Go.Proofs.YthomjcjnalfipaaGreatDoor
