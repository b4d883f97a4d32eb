/- A part of the proofs of the Top laws. -/
import Derived.Test.YthomjcjnalfipaaGreatDoorRows
import Derived.ProofKit
import Derived.OpenShut
import Derived.ChangeOld
import Derived.Deep.Fields
import Derived.Test.YthomjcjnalfipaaGreatDoorYB04
set_option linter.all false
set_option maxRecDepth 1000000
set_option maxHeartbeats 8000000
open Go.Lib (hid)
namespace Go.Proofs.YthomjcjnalfipaaGreatDoor
open Go.RowKit Go.Sort
theorem partEq_r (w0:World) (b off N cap:Nat) (L0 L:List Int) (w:World) (x y pv:Nat) (S:SE .i32 w0 b off L0 i32 L w) (hN:L.length=N) (hxy:x+1<y) (hy:y<=N) (hp1:x<=pv) (hp2:pv<y) (hm:N<1152921504606846976) (hge:∀ k,x<=k->k<y->L.getD pv 0<=L.getD k 0) :
  Calls Tryz.prog 176 #[.slice (some ⟨b,off,none⟩) N cap,.int .i64 x,.int .i64 y,.int .i64 pv] w fun e w'=>∃ (D:List Int) (mid:Nat),e=.returned (.int .i64 mid)/\SE .i32 w0 b off L0 i32 D w'/\Sw x y L D/\x<mid/\mid<=y/\Pe x y mid mid D:=by
 have S0:=hid S;have HL:=hid hN;clear S hN;have bx:(x:Int)<(N:Int):=by omega
 have bp:(pv:Int)<(N:Int):=by omega
 have e1:IntKind.i64.wrap ((x:Int)+1)=(x:Int)+1:=IntWalk.i64_in _ (by omega);have e2:IntKind.i64.wrap ((y:Int)-1)=(y:Int)-1:=IntWalk.i64_in _ (by omega);have HW:=hid (show Sw x y L (sw L x pv) from .one L (Nat.le_refl _) (by omega) hp1 hp2);have HL2:Hid ((sw L x pv).length=N):=hid (by rw[sw_len];exact HL.out)
 have HGE:=hid (show ∀ k,x<=k->k<y->(sw L x pv).getD x 0<=(sw L x pv).getD k 0 from fun k h1 h2=>by
  have e:=fun k=>getD_sw (l:=L) (i:=x) (j:=pv) (k:=k) (by rw[HL.out];omega) (by rw[HL.out];omega)
  have e0:(sw L x pv).getD x 0=L.getD pv 0:=by
   rw[e];split
   ·rename_i h;rw[h]
   ·rw[if_pos rfl]
  rw[e0,e];split
  ·exact hge x (Nat.le_refl _) (by omega)
  ·split
   ·exact hge pv hp1 hp2
   ·exact hge k h1 h2)
 clear hge;obtain⟨u,hu⟩:∃ z,z=L.getD x 0:=⟨_,rfl⟩
 have HU:=hid hu;clear hu;obtain⟨v,hv⟩:∃ z,z=L.getD pv 0:=⟨_,rfl⟩
 have HV:=hid hv;clear hv;go_enter Tryz.func176,Tryz.ntmps176;have S1:=hid (S0.out.swap (i:=x) (j:=pv) (by rw[HL.out];omega) (by rw[HL.out];omega));rw[<- HU.out,<- HV.out] at S1;have m1:=S0.out.cell (i:=x) (by rw[HL.out];omega);have m2:=S0.out.cell (i:=pv) (by rw[HL.out];omega);rw[<- HU.out] at m1;rw[<- HV.out] at m2;have m3:=S0.out.frz (i:=x) (by rw[HL.out];omega);have m4:=S0.out.frz (i:=pv) (by rw[HL.out];omega);obtain⟨t,m5⟩:=S0.out.c2 (i:=x) (j:=pv) (by rw[HL.out];omega) (by rw[HL.out];omega) (.int .i32 v);clear S0;clear HU HV HL;generalize sw L x pv=D at *;have HL:=hid HL2.out;clear HL2;go_wp2;go_region;generalize (((w.setCell ⟨b,off+x,none⟩ (Value.int .i32 v)).setCell ⟨b,off+pv,none⟩ (Value.int .i32 u)).drew)=wa at *;clear m1 m2 m3 m4 m5;go_wp2;clear e1 e2;go_loopw [9,10] (fun vi vj wr=>∃ (i0 j0:Nat) (D:List Int),vi=.int .i64 i0/\vj=.int .i64 ((j0:Int)-1)/\x<i0/\i0<=j0/\j0<=y/\Hid (D.length=N)/\Hid (SE .i32 w0 b off L0 i32 D wr)/\Hid (Sw x y L D)/\Hid (Pe x y i0 j0 D)/\Hid (∀ k,x<=k->k<y->D.getD x 0<=D.getD k 0)) (fun vi _ _=>y-(intOf vi).toNat);case atStart=>exact⟨x+1,y,D,by first | rfl | go_num,by first | rfl | go_num,by omega,by omega,by omega,HL,S1,HW,hid ⟨fun k h1 h2=>by rw[show k=x by omega],fun k h1 h2=>by omega⟩,HGE⟩
 case round=>
  clear S1 HW HL HGE;obtain⟨i0,j0,D,rfl,rfl,hb0,hb00,hb9,HL,S1,HW,HPt,HGE⟩:=hrel;have HLo:=hid (show ∀ k,x<k->k<i0->D.getD k 0=D.getD x 0 from fun k h1 h2=>HPt.out.lo k (by omega) h2);have HHi:=hid HPt.out.hi;clear HPt;go_wp2;go_loopw [9] (fun vi wr=>∃ i:Nat,vi=.int .i64 i/\i0<=i/\i<=j0/\Hid (SE .i32 w0 b off L0 i32 D wr)/\Hid (∀ k,x<k->k<i->D.getD k 0=D.getD x 0)) (fun vi _=>y-(intOf vi).toNat);case atStart=>exact⟨i0,by first | rfl | go_num,by omega,by omega,S1,HLo⟩
  case round=>
   clear S1 HLo;obtain⟨i,rfl,hb1,hb2,S1,HLo⟩:=hrel;obtain⟨cnd,hcnd⟩:∃ z,z=decide (i<j0/\¬ (D.getD x 0<D.getD i 0)):=⟨_,rfl⟩
   have HC:=hid hcnd;clear hcnd;go_upto_region 3 with fail;go_cut [43] from 29 to 43 (fun v wx=>v=.bool cnd/\Ext wr wx)
   case first=>
    by_cases hlt:i<j0
    ·have hiq:(i:Int)<=(j0:Int)-1:=by omega
     have gle:decide ((i:Int)<=(j0:Int)-1)=true:=decide_eq_true hiq;obtain⟨u,hu⟩:∃ z,z=D.getD i 0:=⟨_,rfl⟩
     have HU:=hid hu;clear hu;obtain⟨p,hp⟩:∃ z,z=D.getD x 0:=⟨_,rfl⟩
     have HP:=hid hp;clear hp;have c1:=fun pF:Far wr=>(S1.out.more pF.ext).cell (i:=i) (by rw[HL.out];omega);rw[<- HU.out] at c1;have c2:=fun pF:Far wr=>(S1.out.more pF.ext).cell (i:=x) (by rw[HL.out];omega);rw[<- HP.out] at c2;have bi:(i:Int)<(N:Int):=by omega
     have bx:(x:Int)<(N:Int):=by omega
     by_cases hlv:p<u
     ·have hvd:decide (p<u)=true:=decide_eq_true hlv;obtain rfl:cnd=false:=by rw[HC.out];exact decide_eq_false (fun h=>by have h:=h.2;rw[<- HU.out,<- HP.out] at h;exact h hlv)
      clear HU HP;go_wp2;refine wp_region_far (by kernel_rfl) (by kernel_rfl) ?_
      repeat (quiet_step (first | (go_at_call 175;refine Calls.far_of (Less_far _ _ _))))
      refine wpQuiet_nil ?_;intro w2 hw';obtain⟨pf,hw2⟩:=hw';have hx2:Ext wr w2:=by rw[hw2];exact pf.ext
      clear hw2 pf;have S2:=hid (S1.out.more hx2);go_wp2;go_meet;case rel=>exact⟨by first | rfl | simp[hvd],hx2⟩
     ·have hvd:decide (p<u)=false:=decide_eq_false hlv;obtain rfl:cnd=true:=by rw[HC.out];exact decide_eq_true ⟨by omega,by rw[<- HU.out,<- HP.out];exact hlv⟩
      clear HU HP;go_wp2;refine wp_region_far (by kernel_rfl) (by kernel_rfl) ?_
      repeat (quiet_step (first | (go_at_call 175;refine Calls.far_of (Less_far _ _ _))))
      refine wpQuiet_nil ?_;intro w2 hw';obtain⟨pf,hw2⟩:=hw';have hx2:Ext wr w2:=by rw[hw2];exact pf.ext
      clear hw2 pf;have S2:=hid (S1.out.more hx2);go_wp2;go_meet;case rel=>exact⟨by first | rfl | simp[hvd],hx2⟩
    ·have hiq:¬ (i:Int)<=(j0:Int)-1:=by omega
     have gle:decide ((i:Int)<=(j0:Int)-1)=false:=decide_eq_false hiq;obtain rfl:cnd=false:=by rw[HC.out];exact decide_eq_false (fun h=>hlt h.1)
     go_wp2;go_region;go_wp2;go_meet;case rel=>exact⟨by first | rfl | simp,(Ext.refl _).drew⟩
   case rest=>
    obtain⟨rfl,hx2⟩:=hcut;have S2:=hid (S1.out.more hx2);clear S1 hx2
    cases cnd with
    | true=>
     have hc:=of_decide_eq_true HC.out.symm;have hi2:i<j0:=hc.1
     have HLo2:=hid (show ∀ k,x<k->k<i+1->D.getD k 0=D.getD x 0 from fun k h1 h2=>by
      by_cases hk:k=i
      ·subst hk;have h3:=hc.2;have h4:=HGE.out k (by omega) (by omega);omega
      ·exact HLo.out k h1 (by omega))
     clear hc HC HLo;go_wp2;go_roundw;case rel=>exact⟨i+1,by go_num,by omega,by omega,S2,HLo2⟩
     case measure=>simp[intOf];omega
    | false=>
     have HX1:=hid (show i<j0->D.getD x 0<D.getD i 0 from fun h=>by
      have:=of_decide_eq_false HC.out.symm
      exact Decidable.of_not_not (fun h2=>this ⟨h,h2⟩))
     clear HC;have S1:=hid S2.out;clear S2;go_wp2;go_loopw [10] (fun vj wr=>∃ j1:Nat,vj=.int .i64 ((j1:Int)-1)/\i<=j1/\j1<=j0/\Hid (SE .i32 w0 b off L0 i32 D wr)/\Hid (∀ k,j1<=k->k<y->D.getD x 0<D.getD k 0)) (fun vj _=>(intOf vj+1).toNat);case atStart=>exact⟨j0,by first | rfl | go_num,by omega,by omega,S1,HHi⟩
     case round=>
      clear S1 HHi;obtain⟨j1,rfl,hb2,hb3,S1,HHi⟩:=hrel;obtain⟨cnd,hcnd⟩:∃ z,z=decide (i<j1/\D.getD x 0<D.getD (j1-1) 0):=⟨_,rfl⟩
      have HC:=hid hcnd;clear hcnd;go_upto_region 5 with fail;go_cut [59] from 46 to 59 (fun v wx=>v=.bool cnd/\Ext wr wx)
      case first=>
       by_cases hlt:i<j1
       ·obtain⟨q,hq⟩:∃ z,z+1=j1:=⟨j1-1,by omega⟩
        have HQ:=hid hq;have hqy:q<y:=by omega
        have ej:(j1:Int)-1=(q:Int):=by omega
        have hiq:(i:Int)<=(q:Int):=by omega
        have gle:decide ((i:Int)<=(q:Int))=true:=decide_eq_true hiq;clear hq;have HEJ:=hid ej;rw[ej];clear ej;obtain⟨u,hu⟩:∃ z,z=D.getD q 0:=⟨_,rfl⟩
        have HU:=hid hu;clear hu;obtain⟨p,hp⟩:∃ z,z=D.getD x 0:=⟨_,rfl⟩
        have HP:=hid hp;clear hp;have c1:=fun pF:Far wr=>(S1.out.more pF.ext).cell (i:=q) (by rw[HL.out];omega);rw[<- HU.out] at c1;have c2:=fun pF:Far wr=>(S1.out.more pF.ext).cell (i:=x) (by rw[HL.out];omega);rw[<- HP.out] at c2;have bi:(q:Int)<(N:Int):=by omega
        have bx:(x:Int)<(N:Int):=by omega
        by_cases hlv:p<u
        ·have hvd:decide (p<u)=true:=decide_eq_true hlv;obtain rfl:cnd=true:=by rw[HC.out];exact decide_eq_true ⟨by omega,by rw[show j1-1=q from by have:=HQ.out;omega];rw[<- HU.out,<- HP.out];exact hlv⟩
         clear HU HP;go_wp2;refine wp_region_far (by kernel_rfl) (by kernel_rfl) ?_
         repeat (quiet_step (first | (go_at_call 175;refine Calls.far_of (Less_far _ _ _))))
         refine wpQuiet_nil ?_;intro w2 hw';obtain⟨pf,hw2⟩:=hw';have hx2:Ext wr w2:=by rw[hw2];exact pf.ext
         clear hw2 pf;have S2:=hid (S1.out.more hx2);go_wp2;rw[<- HEJ.out];go_meet;case rel=>exact⟨by first | rfl | simp[hvd],hx2⟩
        ·have hvd:decide (p<u)=false:=decide_eq_false hlv;obtain rfl:cnd=false:=by rw[HC.out];exact decide_eq_false (fun h=>by have h:=h.2;rw[show j1-1=q from by have:=HQ.out;omega] at h;rw[<- HU.out,<- HP.out] at h;exact hlv h)
         clear HU HP;go_wp2;refine wp_region_far (by kernel_rfl) (by kernel_rfl) ?_
         repeat (quiet_step (first | (go_at_call 175;refine Calls.far_of (Less_far _ _ _))))
         refine wpQuiet_nil ?_;intro w2 hw';obtain⟨pf,hw2⟩:=hw';have hx2:Ext wr w2:=by rw[hw2];exact pf.ext
         clear hw2 pf;have S2:=hid (S1.out.more hx2);go_wp2;rw[<- HEJ.out];go_meet;case rel=>exact⟨by first | rfl | simp[hvd],hx2⟩
       ·have hiq:¬ (i:Int)<=(j1:Int)-1:=by omega
        have gle:decide ((i:Int)<=(j1:Int)-1)=false:=decide_eq_false hiq;obtain rfl:cnd=false:=by rw[HC.out];exact decide_eq_false (fun h=>hlt h.1)
        go_wp2;go_region;go_wp2;go_meet;case rel=>exact⟨by first | rfl | simp,(Ext.refl _).drew⟩
      case rest=>
       obtain⟨rfl,hx2⟩:=hcut;have S2:=hid (S1.out.more hx2);clear S1 hx2
       cases cnd with
       | true=>
        have hc:=of_decide_eq_true HC.out.symm;obtain⟨q,hq⟩:∃ z,z+1=j1:=⟨j1-1,by omega⟩
        have hi2:i<=q:=by omega
        have hcq:=hc.2;rw[show j1-1=q from by omega] at hcq
        have HHi2:=hid (show ∀ k,q<=k->k<y->D.getD x 0<D.getD k 0 from fun k h1 h2=>by
         by_cases hk:k=q
         ·subst hk;exact hcq
         ·exact HHi.out k (by omega) h2)
        have hqy:q<y:=by omega
        have hqj:q<j1:=by omega
        have ej:(j1:Int)-1=(q:Int):=by omega
        clear hc HC HHi hq hcq;rw[ej];clear ej;go_wp2;go_roundw;case rel=>exact⟨q,by first | rfl | go_num,by omega,by omega,S2,HHi2⟩
        case measure=>simp[intOf] <;> omega
       | false=>
        have HX2:=hid (show i<j1->¬ (D.getD x 0<D.getD (j1-1) 0) from fun h=>by
         have:=of_decide_eq_false HC.out.symm
         exact fun h2=>this ⟨h,h2⟩)
        clear HC;by_cases hlt:i<j1
        ·obtain⟨q,hq⟩:∃ z,z+1=j1:=⟨j1-1,by omega⟩
         have HQ:=hid hq;have hx1:=HX1.out (by omega);have hx2':=HX2.out hlt;rw[show j1-1=q from by omega] at hx2';have hqy:q<y:=by omega
         have hne:i≠q:=fun e=>by subst e;have:=HGE.out i (by omega) hqy;omega
         have hiq:i<q:=by omega
         have hge:=HGE.out i (by omega) (by omega);have hgq:=HGE.out q (by omega) hqy
         have HPt:=hid (show Pe x y (i+1) q (sw D i q) from Pe.swap (j:=q) ⟨fun k h1 h2=>by
          by_cases hk:k=x
          ·rw[hk]
          ·exact HLo.out k (by omega) h2,by rw[hq];exact HHi.out⟩ (by omega) (by omega) hqy (by rw[HL.out];omega) (by omega) (by omega))
         have HGE2:=hid (show ∀ k,x<=k->k<y->(sw D i q).getD x 0<=(sw D i q).getD k 0 from fun k h1 h2=>by
          rw[getD_sw (by rw[HL.out];omega) (by rw[HL.out];omega),getD_sw (by rw[HL.out];omega) (by rw[HL.out];omega),if_neg (show ¬ x=q by omega),if_neg (show ¬ x=i by omega)];split
          ·exact HGE.out i (by omega) (by omega)
          ·split
           ·exact HGE.out q (by omega) hqy
           ·exact HGE.out k h1 h2)
         clear HGE hge hgq;have HW2:=hid (show Sw x y L (sw D i q) from .step HW.out (by omega) (by omega) (by omega) (by omega));have ej:(j1:Int)-1=(q:Int):=by omega
         have gg3:¬ (q:Int)<(i:Int):=by omega
         have gg:decide ((i:Int) > (q:Int))=false:=decide_eq_false gg3;have gg2:decide ((q:Int)<(i:Int))=false:=decide_eq_false gg3;have bi:(i:Int)<(N:Int):=by omega
         have bq:(q:Int)<(N:Int):=by omega
         have HL2:Hid ((sw D i q).length=N):=hid (by rw[sw_len];exact HL.out);rw[ej];clear ej HLo HHi HX1 HX2 HW hx1 hx2' hq hne;obtain⟨u,hu⟩:∃ z,z=D.getD i 0:=⟨_,rfl⟩
         have HU:=hid hu;clear hu;obtain⟨v,hv⟩:∃ z,z=D.getD q 0:=⟨_,rfl⟩
         have HV:=hid hv;clear hv;have S3:=hid (S2.out.swap (i:=i) (j:=q) (by rw[HL.out];omega) (by rw[HL.out];omega));rw[<- HU.out,<- HV.out] at S3;have m1:=S2.out.cell (i:=i) (by rw[HL.out];omega);have m2:=S2.out.cell (i:=q) (by rw[HL.out];omega);rw[<- HU.out] at m1;rw[<- HV.out] at m2;have m3:=S2.out.frz (i:=i) (by rw[HL.out];omega);have m4:=S2.out.frz (i:=q) (by rw[HL.out];omega);obtain⟨t,m5⟩:=S2.out.c2 (i:=i) (j:=q) (by rw[HL.out];omega) (by rw[HL.out];omega) (.int .i32 v);clear S2;clear HU HV HL;generalize sw D i q=D3 at *;go_wp2;go_region;generalize (((wc.setCell ⟨b,off+i,none⟩ (Value.int .i32 v)).setCell ⟨b,off+q,none⟩ (Value.int .i32 u)).drew)=w3 at *;clear m1 m2 m3 m4 m5;go_wp2;go_roundw;case rel=>exact⟨i+1,q,D3,by go_num,by first | rfl | go_num,by omega,by omega,by omega,HL2,S3,HW2,HPt,HGE2⟩
         case measure=>simp[intOf];omega
        ·have hij:i=j1:=by omega
         subst hij;have gg3:(i:Int)-1<(i:Int):=by omega
         have gg:decide ((i:Int) > (i:Int)-1)=true:=decide_eq_true gg3;have gg2:decide ((i:Int)-1<(i:Int))=true:=decide_eq_true gg3
         have HPt:=hid (show Pe x y i i D from ⟨fun k h1 h2=>by
          by_cases hk:k=x
          ·rw[hk]
          ·exact HLo.out k (by omega) h2,HHi.out⟩)
         clear HLo HHi HX1 HX2;go_wp2;go_ret;exact⟨D,i,rfl,S2.out,HW.out,by omega,by omega,HPt.out⟩
end Go.Proofs.YthomjcjnalfipaaGreatDoor
