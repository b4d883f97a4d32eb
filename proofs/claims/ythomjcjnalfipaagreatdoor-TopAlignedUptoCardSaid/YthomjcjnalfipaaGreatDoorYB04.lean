/- A part of the proofs of the Top laws. -/
import Derived.Deep.Cut
import Derived.Deep.CutRange
import Derived.Test.YthomjcjnalfipaaGreatDoorRows
import Derived.ProofKit
import Derived.OpenShut
import Derived.ChangeOld
import Derived.Deep.Fields
import Derived.Test.YthomjcjnalfipaaGreatDoorYB03
set_option linter.all false
set_option maxRecDepth 1000000
set_option maxHeartbeats 8000000
open Go.Lib (hid)
namespace Go.Proofs.YthomjcjnalfipaaGreatDoor
open Go.RowKit Go.Sort
theorem partition_r (w0:World) (b off N cap:Nat) (L0 L:List Int) (w:World) (x y pv:Nat) (S:SE .i32 w0 b off L0 i32 L w) (hN:L.length=N) (hxy:x+1<y) (hy:y<=N) (hp1:x<=pv) (hp2:pv<y) (hm:N<1152921504606846976) :
  Calls Tryz.prog 177 #[.slice (some ⟨b,off,none⟩) N cap,.int .i64 x,.int .i64 y,.int .i64 pv] w fun e w'=>∃ (D:List Int) (mid:Nat) (al:Bool),e=.returned (.tuple #[.int .i64 mid,.bool al])/\SE .i32 w0 b off L0 i32 D w'/\Sw x y L D/\x<=mid/\mid<y/\Parted x mid y D:=by
 have S0:=hid S;have HL:=hid hN;clear S hN;have bx:(x:Int)<(N:Int):=by omega
 have bp:(pv:Int)<(N:Int):=by omega
 have e1:IntKind.i64.wrap ((x:Int)+1)=(x:Int)+1:=IntWalk.i64_in _ (by omega);have e2:IntKind.i64.wrap ((y:Int)-1)=(y:Int)-1:=IntWalk.i64_in _ (by omega);have HW:=hid (show Sw x y L (sw L x pv) from .one L (Nat.le_refl _) (by omega) hp1 hp2);have HL2:Hid ((sw L x pv).length=N):=hid (by rw[sw_len];exact HL.out);obtain⟨u,hu⟩:∃ z,z=L.getD x 0:=⟨_,rfl⟩
 have HU:=hid hu;clear hu;obtain⟨v,hv⟩:∃ z,z=L.getD pv 0:=⟨_,rfl⟩
 have HV:=hid hv;clear hv;go_enter Tryz.func177,Tryz.ntmps177;have S1:=hid (S0.out.swap (i:=x) (j:=pv) (by rw[HL.out];omega) (by rw[HL.out];omega));rw[<- HU.out,<- HV.out] at S1;have m1:=S0.out.cell (i:=x) (by rw[HL.out];omega);have m2:=S0.out.cell (i:=pv) (by rw[HL.out];omega);rw[<- HU.out] at m1;rw[<- HV.out] at m2;have m3:=S0.out.frz (i:=x) (by rw[HL.out];omega);have m4:=S0.out.frz (i:=pv) (by rw[HL.out];omega);obtain⟨t,m5⟩:=S0.out.c2 (i:=x) (j:=pv) (by rw[HL.out];omega) (by rw[HL.out];omega) (.int .i32 v);clear S0;clear HU HV HL;generalize sw L x pv=D at *;have HL:=hid HL2.out;clear HL2;go_wp2;go_region;generalize (((w.setCell ⟨b,off+x,none⟩ (Value.int .i32 v)).setCell ⟨b,off+pv,none⟩ (Value.int .i32 u)).drew)=wa at *;clear m1 m2 m3 m4 m5;have HLo:=hid (show ∀ k,x<k->k<x+1->D.getD k 0<D.getD x 0 from fun k h1 h2=>by omega);have HHi:=hid (show ∀ k,y<=k->k<y->D.getD x 0<=D.getD k 0 from fun k h1 h2=>by omega);go_wp2;clear e1 e2;go_loopw [10] (fun vi wr=>∃ i:Nat,vi=.int .i64 i/\x+1<=i/\i<=y/\Hid (SE .i32 w0 b off L0 i32 D wr)/\Hid (∀ k,x<k->k<i->D.getD k 0<D.getD x 0)) (fun vi _=>y-(intOf vi).toNat);case atStart=>exact⟨(x+1),by first | rfl | go_num,by omega,by omega,S1,HLo⟩
 case round=>
  clear S1 HLo;obtain⟨i,rfl,hb1,hb2,S1,HLo⟩:=hrel;obtain⟨cnd,hcnd⟩:∃ z,z=decide (i<y/\D.getD i 0<D.getD x 0):=⟨_,rfl⟩
  have HC:=hid hcnd;clear hcnd;go_upto_region 3 with fail;go_cut [43] from 30 to 43 (fun v wx=>v=.bool cnd/\Ext wr wx)
  case first=>
   by_cases hlt:i<y
   ·have hiq:(i:Int)<=(y:Int)-1:=by omega
    have gle:decide ((i:Int)<=(y:Int)-1)=true:=decide_eq_true hiq;obtain⟨u,hu⟩:∃ z,z=D.getD i 0:=⟨_,rfl⟩
    have HU:=hid hu;clear hu;obtain⟨p,hp⟩:∃ z,z=D.getD x 0:=⟨_,rfl⟩
    have HP:=hid hp;clear hp;have c1:=fun pF:Far wr=>(S1.out.more pF.ext).cell (i:=i) (by rw[HL.out];omega);rw[<- HU.out] at c1;have c2:=fun pF:Far wr=>(S1.out.more pF.ext).cell (i:=x) (by rw[HL.out];omega);rw[<- HP.out] at c2;have bi:(i:Int)<(N:Int):=by omega
    have bx:(x:Int)<(N:Int):=by omega
    by_cases hlv:u<p
    ·have hvd:decide (u<p)=true:=decide_eq_true hlv;obtain rfl:cnd=true:=by rw[HC.out];exact decide_eq_true ⟨by omega,by rw[<- HU.out,<- HP.out];exact hlv⟩
     clear HU HP;go_wp2;refine wp_region_far (by kernel_rfl) (by kernel_rfl) ?_
     repeat (quiet_step (first | (go_at_call 175;refine Calls.far_of (Less_far _ _ _))))
     refine wpQuiet_nil ?_;intro w2 hw';obtain⟨pf,hw2⟩:=hw';have hx2:Ext wr w2:=by rw[hw2];exact pf.ext
     clear hw2 pf;have S2:=hid (S1.out.more hx2);go_wp2;go_meet;case rel=>exact⟨by first | rfl | simp[hvd],hx2⟩
    ·have hvd:decide (u<p)=false:=decide_eq_false hlv;obtain rfl:cnd=false:=by rw[HC.out];exact decide_eq_false (fun h=>by have h:=h.2;rw[<- HU.out,<- HP.out] at h;exact hlv h)
     clear HU HP;go_wp2;refine wp_region_far (by kernel_rfl) (by kernel_rfl) ?_
     repeat (quiet_step (first | (go_at_call 175;refine Calls.far_of (Less_far _ _ _))))
     refine wpQuiet_nil ?_;intro w2 hw';obtain⟨pf,hw2⟩:=hw';have hx2:Ext wr w2:=by rw[hw2];exact pf.ext
     clear hw2 pf;have S2:=hid (S1.out.more hx2);go_wp2;go_meet;case rel=>exact⟨by first | rfl | simp[hvd],hx2⟩
   ·have hiq:¬ (i:Int)<=(y:Int)-1:=by omega
    have gle:decide ((i:Int)<=(y:Int)-1)=false:=decide_eq_false hiq;obtain rfl:cnd=false:=by rw[HC.out];exact decide_eq_false (fun h=>hlt h.1)
    go_wp2;go_region;go_wp2;go_meet;case rel=>exact⟨by first | rfl | simp,(Ext.refl _).drew⟩
  case rest=>
   obtain⟨rfl,hx2⟩:=hcut;have S2:=hid (S1.out.more hx2);clear S1 hx2
   cases cnd with
   | true=>
    have hc:=of_decide_eq_true HC.out.symm;have hi2:i<y:=hc.1
    have HLo2:=hid (show ∀ k,x<k->k<i+1->D.getD k 0<D.getD x 0 from fun k h1 h2=>by
     by_cases hk:k=i
     ·subst hk;exact hc.2
     ·exact HLo.out k h1 (by omega))
    clear hc HC HLo;go_wp2;go_roundw;case rel=>exact⟨i+1,by go_num,by omega,by omega,S2,HLo2⟩
    case measure=>simp[intOf];omega
   | false=>
    have HX1:=hid (show i<y->¬ (D.getD i 0<D.getD x 0) from fun h=>by
     have:=of_decide_eq_false HC.out.symm
     exact fun h2=>this ⟨h,h2⟩)
    clear HC;have S1:=hid S2.out;clear S2;go_wp2;go_loopw [11] (fun vj wr=>∃ j1:Nat,vj=.int .i64 ((j1:Int)-1)/\i<=j1/\j1<=y/\Hid (SE .i32 w0 b off L0 i32 D wr)/\Hid (∀ k,j1<=k->k<y->D.getD x 0<=D.getD k 0)) (fun vj _=>(intOf vj+1).toNat);case atStart=>exact⟨y,by first | rfl | go_num,by omega,by omega,S1,HHi⟩
    case round=>
     clear S1 HHi;obtain⟨j1,rfl,hb2,hb3,S1,HHi⟩:=hrel;obtain⟨cnd,hcnd⟩:∃ z,z=decide (i<j1/\¬ (D.getD (j1-1) 0<D.getD x 0)):=⟨_,rfl⟩
     have HC:=hid hcnd;clear hcnd;go_upto_region 5 with fail;go_cut [60] from 46 to 60 (fun v wx=>v=.bool cnd/\Ext wr wx)
     case first=>
      by_cases hlt:i<j1
      ·obtain⟨q,hq⟩:∃ z,z+1=j1:=⟨j1-1,by omega⟩
       have HQ:=hid hq;have hqy:q<y:=by omega
       have ej:(j1:Int)-1=(q:Int):=by omega
       have hiq:(i:Int)<=(q:Int):=by omega
       have gle:decide ((i:Int)<=(q:Int))=true:=decide_eq_true hiq;clear hq;have HEJ:=hid ej;rw[ej];clear ej;obtain⟨u,hu⟩:∃ z,z=D.getD q 0:=⟨_,rfl⟩
       have HU:=hid hu;clear hu;obtain⟨p,hp⟩:∃ z,z=D.getD x 0:=⟨_,rfl⟩
       have HP:=hid hp;clear hp;have c1:=fun pF:Far wr=>(S1.out.more pF.ext).cell (i:=q) (by rw[HL.out];omega);rw[<- HU.out] at c1;have c2:=fun pF:Far wr=>(S1.out.more pF.ext).cell (i:=x) (by rw[HL.out];omega);rw[<- HP.out] at c2;have bi:(q:Int)<(N:Int):=by omega
       have bx:(x:Int)<(N:Int):=by omega
       by_cases hlv:u<p
       ·have hvd:decide (u<p)=true:=decide_eq_true hlv;obtain rfl:cnd=false:=by rw[HC.out];exact decide_eq_false (fun h=>by have h:=h.2;rw[show j1-1=q from by have:=HQ.out;omega] at h;rw[<- HU.out,<- HP.out] at h;exact h hlv)
        clear HU HP;go_wp2;refine wp_region_far (by kernel_rfl) (by kernel_rfl) ?_
        repeat (quiet_step (first | (go_at_call 175;refine Calls.far_of (Less_far _ _ _))))
        refine wpQuiet_nil ?_;intro w2 hw';obtain⟨pf,hw2⟩:=hw';have hx2:Ext wr w2:=by rw[hw2];exact pf.ext
        clear hw2 pf;have S2:=hid (S1.out.more hx2);go_wp2;rw[<- HEJ.out];go_meet;case rel=>exact⟨by first | rfl | simp[hvd],hx2⟩
       ·have hvd:decide (u<p)=false:=decide_eq_false hlv;obtain rfl:cnd=true:=by rw[HC.out];exact decide_eq_true ⟨by omega,by rw[show j1-1=q from by have:=HQ.out;omega];rw[<- HU.out,<- HP.out];exact hlv⟩
        clear HU HP;go_wp2;refine wp_region_far (by kernel_rfl) (by kernel_rfl) ?_
        repeat (quiet_step (first | (go_at_call 175;refine Calls.far_of (Less_far _ _ _))))
        refine wpQuiet_nil ?_;intro w2 hw';obtain⟨pf,hw2⟩:=hw';have hx2:Ext wr w2:=by rw[hw2];exact pf.ext
        clear hw2 pf;have S2:=hid (S1.out.more hx2);go_wp2;rw[<- HEJ.out];go_meet;case rel=>exact⟨by first | rfl | simp[hvd],hx2⟩
      ·have hiq:¬ (i:Int)<=(j1:Int)-1:=by omega
       have gle:decide ((i:Int)<=(j1:Int)-1)=false:=decide_eq_false hiq;obtain rfl:cnd=false:=by rw[HC.out];exact decide_eq_false (fun h=>hlt h.1)
       go_wp2;go_region;go_wp2;go_meet;case rel=>exact⟨by first | rfl | simp,(Ext.refl _).drew⟩
     case rest=>
      obtain⟨rfl,hx2⟩:=hcut;have S2:=hid (S1.out.more hx2);clear S1 hx2
      cases cnd with
      | true=>
       have hc:=of_decide_eq_true HC.out.symm;obtain⟨q,hq⟩:∃ z,z+1=j1:=⟨j1-1,by omega⟩
       have hi2:i<=q:=by omega
       have hcq:=hc.2;rw[show j1-1=q from by omega] at hcq
       have HHi2:=hid (show ∀ k,q<=k->k<y->D.getD x 0<=D.getD k 0 from fun k h1 h2=>by
        by_cases hk:k=q
        ·subst hk;omega
        ·exact HHi.out k (by omega) h2)
       have hqy:q<y:=by omega
       have hqj:q<j1:=by omega
       have ej:(j1:Int)-1=(q:Int):=by omega
       clear hc HC HHi hq hcq;rw[ej];clear ej;go_wp2;go_roundw;case rel=>exact⟨q,by first | rfl | go_num,by omega,by omega,S2,HHi2⟩
       case measure=>simp[intOf] <;> omega
      | false=>
       have HX2:=hid (show i<j1->D.getD (j1-1) 0<D.getD x 0 from fun h=>by
        have:=of_decide_eq_false HC.out.symm
        exact Decidable.of_not_not (fun h2=>this ⟨h,h2⟩))
       clear HC;by_cases hlt:i<j1
       ·obtain⟨q,hq⟩:∃ z,z+1=j1:=⟨j1-1,by omega⟩
        have HQ:=hid hq;have hx1:=HX1.out (by omega);have hx2':=HX2.out hlt;rw[show j1-1=q from by omega] at hx2';have hqy:q<y:=by omega
        have hne:i≠q:=fun e=>by subst e;omega
        have hiq:i<q:=by omega
        have HPt:=hid (show Pt x y (i+1) q (sw D i q) from Pt.swap (j:=q) ⟨HLo.out,by rw[hq];exact HHi.out⟩ (by omega) (by omega) hqy (by rw[HL.out];omega) (by omega) hx2');have HW2:=hid (show Sw x y L (sw D i q) from .step HW.out (by omega) (by omega) (by omega) (by omega));have ej:(j1:Int)-1=(q:Int):=by omega
        have gg3:¬ (q:Int)<(i:Int):=by omega
        have gg:decide ((i:Int) > (q:Int))=false:=decide_eq_false gg3;have gg2:decide ((q:Int)<(i:Int))=false:=decide_eq_false gg3;have bi:(i:Int)<(N:Int):=by omega
        have bq:(q:Int)<(N:Int):=by omega
        have HL2:Hid ((sw D i q).length=N):=hid (by rw[sw_len];exact HL.out);rw[ej];clear ej HLo HHi HX1 HX2 HW hx1 hx2' hq hne;obtain⟨u,hu⟩:∃ z,z=D.getD i 0:=⟨_,rfl⟩
        have HU:=hid hu;clear hu;obtain⟨v,hv⟩:∃ z,z=D.getD q 0:=⟨_,rfl⟩
        have HV:=hid hv;clear hv;have S3:=hid (S2.out.swap (i:=i) (j:=q) (by rw[HL.out];omega) (by rw[HL.out];omega));rw[<- HU.out,<- HV.out] at S3;have m1:=S2.out.cell (i:=i) (by rw[HL.out];omega);have m2:=S2.out.cell (i:=q) (by rw[HL.out];omega);rw[<- HU.out] at m1;rw[<- HV.out] at m2;have m3:=S2.out.frz (i:=i) (by rw[HL.out];omega);have m4:=S2.out.frz (i:=q) (by rw[HL.out];omega);obtain⟨t,m5⟩:=S2.out.c2 (i:=i) (j:=q) (by rw[HL.out];omega) (by rw[HL.out];omega) (.int .i32 v);clear S2;clear HU HV HL;generalize sw D i q=D3 at *;go_wp2;go_region;generalize (((wc.setCell ⟨b,off+i,none⟩ (Value.int .i32 v)).setCell ⟨b,off+q,none⟩ (Value.int .i32 u)).drew)=w3 at *;clear m1 m2 m3 m4 m5;go_wp2;go_loopw [10,11] (fun vi vj wr=>∃ (i0 j0:Nat) (D:List Int),vi=.int .i64 i0/\vj=.int .i64 ((j0:Int)-1)/\x<i0/\i0<=j0/\j0<=y/\Hid (D.length=N)/\Hid (SE .i32 w0 b off L0 i32 D wr)/\Hid (Sw x y L D)/\Hid (Pt x y i0 j0 D)) (fun vi _ _=>y-(intOf vi).toNat);case atStart=>exact⟨i+1,q,D3,by first | rfl | go_num,by first | rfl | go_num,by omega,by omega,by omega,HL2,S3,HW2,HPt⟩
        case round=>
         clear S3 HW2 HPt HL2;obtain⟨i0,j0,D,rfl,rfl,hb0,hb00,hb9,HL,S1,HW,HPt⟩:=hrel;have HLo:=hid HPt.out.lo;have HHi:=hid HPt.out.hi;clear HPt;go_wp2;go_loopw [10] (fun vi wr=>∃ i:Nat,vi=.int .i64 i/\i0<=i/\i<=j0/\Hid (SE .i32 w0 b off L0 i32 D wr)/\Hid (∀ k,x<k->k<i->D.getD k 0<D.getD x 0)) (fun vi _=>y-(intOf vi).toNat);case atStart=>exact⟨i0,by first | rfl | go_num,by omega,by omega,S1,HLo⟩
         case round=>
          clear S1 HLo;obtain⟨i,rfl,hb1,hb2,S1,HLo⟩:=hrel;obtain⟨cnd,hcnd⟩:∃ z,z=decide (i<j0/\D.getD i 0<D.getD x 0):=⟨_,rfl⟩
          have HC:=hid hcnd;clear hcnd;go_upto_region 13 with fail;go_cut [112] from 99 to 112 (fun v wx=>v=.bool cnd/\Ext wr wx)
          case first=>
           by_cases hlt:i<j0
           ·have hiq:(i:Int)<=(j0:Int)-1:=by omega
            have gle:decide ((i:Int)<=(j0:Int)-1)=true:=decide_eq_true hiq;obtain⟨u,hu⟩:∃ z,z=D.getD i 0:=⟨_,rfl⟩
            have HU:=hid hu;clear hu;obtain⟨p,hp⟩:∃ z,z=D.getD x 0:=⟨_,rfl⟩
            have HP:=hid hp;clear hp;have c1:=fun pF:Far wr=>(S1.out.more pF.ext).cell (i:=i) (by rw[HL.out];omega);rw[<- HU.out] at c1;have c2:=fun pF:Far wr=>(S1.out.more pF.ext).cell (i:=x) (by rw[HL.out];omega);rw[<- HP.out] at c2;have bi:(i:Int)<(N:Int):=by omega
            have bx:(x:Int)<(N:Int):=by omega
            by_cases hlv:u<p
            ·have hvd:decide (u<p)=true:=decide_eq_true hlv;obtain rfl:cnd=true:=by rw[HC.out];exact decide_eq_true ⟨by omega,by rw[<- HU.out,<- HP.out];exact hlv⟩
             clear HU HP;go_wp2;refine wp_region_far (by kernel_rfl) (by kernel_rfl) ?_
             repeat (quiet_step (first | (go_at_call 175;refine Calls.far_of (Less_far _ _ _))))
             refine wpQuiet_nil ?_;intro w2 hw';obtain⟨pf,hw2⟩:=hw';have hx2:Ext wr w2:=by rw[hw2];exact pf.ext
             clear hw2 pf;have S2:=hid (S1.out.more hx2);go_wp2;go_meet;case rel=>exact⟨by first | rfl | simp[hvd],hx2⟩
            ·have hvd:decide (u<p)=false:=decide_eq_false hlv;obtain rfl:cnd=false:=by rw[HC.out];exact decide_eq_false (fun h=>by have h:=h.2;rw[<- HU.out,<- HP.out] at h;exact hlv h)
             clear HU HP;go_wp2;refine wp_region_far (by kernel_rfl) (by kernel_rfl) ?_
             repeat (quiet_step (first | (go_at_call 175;refine Calls.far_of (Less_far _ _ _))))
             refine wpQuiet_nil ?_;intro w2 hw';obtain⟨pf,hw2⟩:=hw';have hx2:Ext wr w2:=by rw[hw2];exact pf.ext
             clear hw2 pf;have S2:=hid (S1.out.more hx2);go_wp2;go_meet;case rel=>exact⟨by first | rfl | simp[hvd],hx2⟩
           ·have hiq:¬ (i:Int)<=(j0:Int)-1:=by omega
            have gle:decide ((i:Int)<=(j0:Int)-1)=false:=decide_eq_false hiq;obtain rfl:cnd=false:=by rw[HC.out];exact decide_eq_false (fun h=>hlt h.1)
            go_wp2;go_region;go_wp2;go_meet;case rel=>exact⟨by first | rfl | simp,(Ext.refl _).drew⟩
          case rest=>
           obtain⟨rfl,hx2⟩:=hcut;have S2:=hid (S1.out.more hx2);clear S1 hx2
           cases cnd with
           | true=>
            have hc:=of_decide_eq_true HC.out.symm;have hi2:i<j0:=hc.1
            have HLo2:=hid (show ∀ k,x<k->k<i+1->D.getD k 0<D.getD x 0 from fun k h1 h2=>by
             by_cases hk:k=i
             ·subst hk;exact hc.2
             ·exact HLo.out k h1 (by omega))
            clear hc HC HLo;go_wp2;go_roundw;case rel=>exact⟨i+1,by go_num,by omega,by omega,S2,HLo2⟩
            case measure=>simp[intOf];omega
           | false=>
            have HX1:=hid (show i<j0->¬ (D.getD i 0<D.getD x 0) from fun h=>by
             have:=of_decide_eq_false HC.out.symm
             exact fun h2=>this ⟨h,h2⟩)
            clear HC;have S1:=hid S2.out;clear S2;go_wp2;go_loopw [11] (fun vj wr=>∃ j1:Nat,vj=.int .i64 ((j1:Int)-1)/\i<=j1/\j1<=j0/\Hid (SE .i32 w0 b off L0 i32 D wr)/\Hid (∀ k,j1<=k->k<y->D.getD x 0<=D.getD k 0)) (fun vj _=>(intOf vj+1).toNat);case atStart=>exact⟨j0,by first | rfl | go_num,by omega,by omega,S1,HHi⟩
            case round=>
             clear S1 HHi;obtain⟨j1,rfl,hb2,hb3,S1,HHi⟩:=hrel;obtain⟨cnd,hcnd⟩:∃ z,z=decide (i<j1/\¬ (D.getD (j1-1) 0<D.getD x 0)):=⟨_,rfl⟩
             have HC:=hid hcnd;clear hcnd;go_upto_region 15 with fail;go_cut [129] from 115 to 129 (fun v wx=>v=.bool cnd/\Ext wr wx)
             case first=>
              by_cases hlt:i<j1
              ·obtain⟨q,hq⟩:∃ z,z+1=j1:=⟨j1-1,by omega⟩
               have HQ:=hid hq;have hqy:q<y:=by omega
               have ej:(j1:Int)-1=(q:Int):=by omega
               have hiq:(i:Int)<=(q:Int):=by omega
               have gle:decide ((i:Int)<=(q:Int))=true:=decide_eq_true hiq;clear hq;have HEJ:=hid ej;rw[ej];clear ej;obtain⟨u,hu⟩:∃ z,z=D.getD q 0:=⟨_,rfl⟩
               have HU:=hid hu;clear hu;obtain⟨p,hp⟩:∃ z,z=D.getD x 0:=⟨_,rfl⟩
               have HP:=hid hp;clear hp;have c1:=fun pF:Far wr=>(S1.out.more pF.ext).cell (i:=q) (by rw[HL.out];omega);rw[<- HU.out] at c1;have c2:=fun pF:Far wr=>(S1.out.more pF.ext).cell (i:=x) (by rw[HL.out];omega);rw[<- HP.out] at c2;have bi:(q:Int)<(N:Int):=by omega
               have bx:(x:Int)<(N:Int):=by omega
               by_cases hlv:u<p
               ·have hvd:decide (u<p)=true:=decide_eq_true hlv;obtain rfl:cnd=false:=by rw[HC.out];exact decide_eq_false (fun h=>by have h:=h.2;rw[show j1-1=q from by have:=HQ.out;omega] at h;rw[<- HU.out,<- HP.out] at h;exact h hlv)
                clear HU HP;go_wp2;refine wp_region_far (by kernel_rfl) (by kernel_rfl) ?_
                repeat (quiet_step (first | (go_at_call 175;refine Calls.far_of (Less_far _ _ _))))
                refine wpQuiet_nil ?_;intro w2 hw';obtain⟨pf,hw2⟩:=hw';have hx2:Ext wr w2:=by rw[hw2];exact pf.ext
                clear hw2 pf;have S2:=hid (S1.out.more hx2);go_wp2;rw[<- HEJ.out];go_meet;case rel=>exact⟨by first | rfl | simp[hvd],hx2⟩
               ·have hvd:decide (u<p)=false:=decide_eq_false hlv;obtain rfl:cnd=true:=by rw[HC.out];exact decide_eq_true ⟨by omega,by rw[show j1-1=q from by have:=HQ.out;omega];rw[<- HU.out,<- HP.out];exact hlv⟩
                clear HU HP;go_wp2;refine wp_region_far (by kernel_rfl) (by kernel_rfl) ?_
                repeat (quiet_step (first | (go_at_call 175;refine Calls.far_of (Less_far _ _ _))))
                refine wpQuiet_nil ?_;intro w2 hw';obtain⟨pf,hw2⟩:=hw';have hx2:Ext wr w2:=by rw[hw2];exact pf.ext
                clear hw2 pf;have S2:=hid (S1.out.more hx2);go_wp2;rw[<- HEJ.out];go_meet;case rel=>exact⟨by first | rfl | simp[hvd],hx2⟩
              ·have hiq:¬ (i:Int)<=(j1:Int)-1:=by omega
               have gle:decide ((i:Int)<=(j1:Int)-1)=false:=decide_eq_false hiq;obtain rfl:cnd=false:=by rw[HC.out];exact decide_eq_false (fun h=>hlt h.1)
               go_wp2;go_region;go_wp2;go_meet;case rel=>exact⟨by first | rfl | simp,(Ext.refl _).drew⟩
             case rest=>
              obtain⟨rfl,hx2⟩:=hcut;have S2:=hid (S1.out.more hx2);clear S1 hx2
              cases cnd with
              | true=>
               have hc:=of_decide_eq_true HC.out.symm;obtain⟨q,hq⟩:∃ z,z+1=j1:=⟨j1-1,by omega⟩
               have hi2:i<=q:=by omega
               have hcq:=hc.2;rw[show j1-1=q from by omega] at hcq
               have HHi2:=hid (show ∀ k,q<=k->k<y->D.getD x 0<=D.getD k 0 from fun k h1 h2=>by
                by_cases hk:k=q
                ·subst hk;omega
                ·exact HHi.out k (by omega) h2)
               have hqy:q<y:=by omega
               have hqj:q<j1:=by omega
               have ej:(j1:Int)-1=(q:Int):=by omega
               clear hc HC HHi hq hcq;rw[ej];clear ej;go_wp2;go_roundw;case rel=>exact⟨q,by first | rfl | go_num,by omega,by omega,S2,HHi2⟩
               case measure=>simp[intOf] <;> omega
              | false=>
               have HX2:=hid (show i<j1->D.getD (j1-1) 0<D.getD x 0 from fun h=>by
                have:=of_decide_eq_false HC.out.symm
                exact Decidable.of_not_not (fun h2=>this ⟨h,h2⟩))
               clear HC;by_cases hlt:i<j1
               ·obtain⟨q,hq⟩:∃ z,z+1=j1:=⟨j1-1,by omega⟩
                have HQ:=hid hq;have hx1:=HX1.out (by omega);have hx2':=HX2.out hlt;rw[show j1-1=q from by omega] at hx2';have hqy:q<y:=by omega
                have hne:i≠q:=fun e=>by subst e;omega
                have hiq:i<q:=by omega
                have HPt:=hid (show Pt x y (i+1) q (sw D i q) from Pt.swap (j:=q) ⟨HLo.out,by rw[hq];exact HHi.out⟩ (by omega) (by omega) hqy (by rw[HL.out];omega) (by omega) hx2');have HW2:=hid (show Sw x y L (sw D i q) from .step HW.out (by omega) (by omega) (by omega) (by omega));have ej:(j1:Int)-1=(q:Int):=by omega
                have gg3:¬ (q:Int)<(i:Int):=by omega
                have gg:decide ((i:Int) > (q:Int))=false:=decide_eq_false gg3;have gg2:decide ((q:Int)<(i:Int))=false:=decide_eq_false gg3;have bi:(i:Int)<(N:Int):=by omega
                have bq:(q:Int)<(N:Int):=by omega
                have HL2:Hid ((sw D i q).length=N):=hid (by rw[sw_len];exact HL.out);rw[ej];clear ej HLo HHi HX1 HX2 HW hx1 hx2' hq hne;obtain⟨u,hu⟩:∃ z,z=D.getD i 0:=⟨_,rfl⟩
                have HU:=hid hu;clear hu;obtain⟨v,hv⟩:∃ z,z=D.getD q 0:=⟨_,rfl⟩
                have HV:=hid hv;clear hv;have S3:=hid (S2.out.swap (i:=i) (j:=q) (by rw[HL.out];omega) (by rw[HL.out];omega));rw[<- HU.out,<- HV.out] at S3;have m1:=S2.out.cell (i:=i) (by rw[HL.out];omega);have m2:=S2.out.cell (i:=q) (by rw[HL.out];omega);rw[<- HU.out] at m1;rw[<- HV.out] at m2;have m3:=S2.out.frz (i:=i) (by rw[HL.out];omega);have m4:=S2.out.frz (i:=q) (by rw[HL.out];omega);obtain⟨t,m5⟩:=S2.out.c2 (i:=i) (j:=q) (by rw[HL.out];omega) (by rw[HL.out];omega) (.int .i32 v);clear S2;clear HU HV HL;generalize sw D i q=D3 at *;go_wp2;go_region;generalize (((wc.setCell ⟨b,off+i,none⟩ (Value.int .i32 v)).setCell ⟨b,off+q,none⟩ (Value.int .i32 u)).drew)=w3 at *;clear m1 m2 m3 m4 m5;go_wp2;go_roundw;case rel=>exact⟨i+1,q,D3,by go_num,by first | rfl | go_num,by omega,by omega,by omega,HL2,S3,HW2,HPt⟩
                case measure=>simp[intOf];omega
               ·have hij:i=j1:=by omega
                subst hij;obtain⟨q,hq⟩:∃ z,z+1=i:=⟨i-1,by omega⟩
                have HQ:=hid hq;have hqx:x<=q:=by omega
                have hqy:q<y:=by omega
                have HPt:=hid (show Parted x q y (sw D q x) from Pt.done ⟨by rw[hq];exact HLo.out,by rw[hq];exact HHi.out⟩ hqx hqy (by rw[HL.out];omega));have HW2:=hid (show Sw x y L (sw D q x) from .step HW.out (by omega) (by omega) (by omega) (by omega));have ej:(i:Int)-1=(q:Int):=by omega
                have gg3:(q:Int)<(i:Int):=by omega
                have gg:decide ((i:Int) > (q:Int))=true:=decide_eq_true gg3;have gg2:decide ((q:Int)<(i:Int))=true:=decide_eq_true gg3;have bq:(q:Int)<(N:Int):=by omega
                have bx:(x:Int)<(N:Int):=by omega
                rw[ej];clear ej HLo HHi HX1 HX2 HW hq;obtain⟨u,hu⟩:∃ z,z=D.getD q 0:=⟨_,rfl⟩
                have HU:=hid hu;clear hu;obtain⟨v,hv⟩:∃ z,z=D.getD x 0:=⟨_,rfl⟩
                have HV:=hid hv;clear hv;have S3:=hid (S2.out.swap (i:=q) (j:=x) (by rw[HL.out];omega) (by rw[HL.out];omega));rw[<- HU.out,<- HV.out] at S3;have m1:=S2.out.cell (i:=q) (by rw[HL.out];omega);have m2:=S2.out.cell (i:=x) (by rw[HL.out];omega);rw[<- HU.out] at m1;rw[<- HV.out] at m2;have m3:=S2.out.frz (i:=q) (by rw[HL.out];omega);have m4:=S2.out.frz (i:=x) (by rw[HL.out];omega);obtain⟨t,m5⟩:=S2.out.c2 (i:=q) (j:=x) (by rw[HL.out];omega) (by rw[HL.out];omega) (.int .i32 v);clear S2;clear HU HV;generalize sw D q x=D3 at *;go_wp2;go_region;generalize (((wc.setCell ⟨b,off+q,none⟩ (Value.int .i32 v)).setCell ⟨b,off+x,none⟩ (Value.int .i32 u)).drew)=w3 at *;go_wp2;go_ret2;exact⟨D3,q,false,rfl,S3.out,HW2.out,hqx,hqy,HPt.out⟩
       ·have hij:i=j1:=by omega
        subst hij;obtain⟨q,hq⟩:∃ z,z+1=i:=⟨i-1,by omega⟩
        have HQ:=hid hq;have hqx:x<=q:=by omega
        have hqy:q<y:=by omega
        have HPt:=hid (show Parted x q y (sw D q x) from Pt.done ⟨by rw[hq];exact HLo.out,by rw[hq];exact HHi.out⟩ hqx hqy (by rw[HL.out];omega));have HW2:=hid (show Sw x y L (sw D q x) from .step HW.out (by omega) (by omega) (by omega) (by omega));have ej:(i:Int)-1=(q:Int):=by omega
        have gg3:(q:Int)<(i:Int):=by omega
        have gg:decide ((i:Int) > (q:Int))=true:=decide_eq_true gg3;have gg2:decide ((q:Int)<(i:Int))=true:=decide_eq_true gg3;have bq:(q:Int)<(N:Int):=by omega
        have bx:(x:Int)<(N:Int):=by omega
        rw[ej];clear ej HLo HHi HX1 HX2 HW hq;obtain⟨u,hu⟩:∃ z,z=D.getD q 0:=⟨_,rfl⟩
        have HU:=hid hu;clear hu;obtain⟨v,hv⟩:∃ z,z=D.getD x 0:=⟨_,rfl⟩
        have HV:=hid hv;clear hv;have S3:=hid (S2.out.swap (i:=q) (j:=x) (by rw[HL.out];omega) (by rw[HL.out];omega));rw[<- HU.out,<- HV.out] at S3;have m1:=S2.out.cell (i:=q) (by rw[HL.out];omega);have m2:=S2.out.cell (i:=x) (by rw[HL.out];omega);rw[<- HU.out] at m1;rw[<- HV.out] at m2;have m3:=S2.out.frz (i:=q) (by rw[HL.out];omega);have m4:=S2.out.frz (i:=x) (by rw[HL.out];omega);obtain⟨t,m5⟩:=S2.out.c2 (i:=q) (j:=x) (by rw[HL.out];omega) (by rw[HL.out];omega) (.int .i32 v);clear S2;clear HU HV;generalize sw D q x=D3 at *;go_wp2;go_region;generalize (((wc.setCell ⟨b,off+q,none⟩ (Value.int .i32 v)).setCell ⟨b,off+x,none⟩ (Value.int .i32 u)).drew)=w3 at *;go_wp2;go_ret2;exact⟨D3,q,true,rfl,S3.out,HW2.out,hqx,hqy,HPt.out⟩
end Go.Proofs.YthomjcjnalfipaaGreatDoor
