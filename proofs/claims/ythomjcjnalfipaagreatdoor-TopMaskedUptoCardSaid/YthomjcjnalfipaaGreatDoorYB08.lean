/- A part of the proofs of the Top laws. -/
import Derived.Deep.Cut
import Derived.Deep.CutRange
import Derived.Test.YthomjcjnalfipaaGreatDoorProg
import Derived.Test.YthomjcjnalfipaaGreatDoorRows
import Derived.ProofKit
import Derived.OpenShut
import Derived.ChangeOld
import Derived.Deep.Fields
import Derived.Test.YthomjcjnalfipaaGreatDoorYB07
set_option linter.all false
set_option maxRecDepth 1000000
set_option maxHeartbeats 32000000
open Go.Lib (hid)
namespace Go.Proofs.YthomjcjnalfipaaGreatDoor
open Go.RowKit Go.Sort
theorem pdq_r (w0:World) (b off N cap:Nat) (L0:List Int) (hm:N<1152921504606846976):∀ (n:Nat) (L:List Int) (w:World) (x y lim:Nat),y-x<=n->SE .i32 w0 b off L0 i32 L w->L.length=N->x<=y->y<=N->Lo x y L->lim<=1000 ->
  Calls Tryz.prog 159 #[.slice (some ⟨b,off,none⟩) N cap,.int .i64 x,.int .i64 y,.int .i64 lim] w fun e w'=>e=.returned (.tuple #[])/\∃ D,SE .i32 w0 b off L0 i32 D w'/\Sw x y L D/\Sd x y D:=by
 intro n
 induction n using Nat.strongRecOn with
 | _ n ih=>
  intro L w x y lim0 hn S hN hxy hy hlo hlim;have S0:=hid S;have HN:=hid hN;have HLO0:=hid hlo;clear S hN hlo;go_enter Tryz.func159,Tryz.ntmps159;go_wp2;go_loopw [1,2,3,8,9] (fun va vb vl v8 v9 wr=>∃ (p r lim:Nat) (bal par:Bool) (D:List Int),va=.int .i64 p/\vb=.int .i64 r/\vl=.int .i64 lim/\v8=.bool bal/\v9=.bool par/\x<=p/\p<=r/\r<=y/\lim<=1000/\Hid (SE .i32 w0 b off L0 i32 D wr)/\Hid (Sw x y L D)/\Hid (Lo p r D)/\Hid (∀ D',Sw p r D D'->Sd p r D'->Sd x y D')) (fun va vb _ _ _ _=>(intOf vb).toNat-(intOf va).toNat);case atStart=>exact⟨x,y,lim0,true,true,L,rfl,rfl,rfl,rfl,rfl,Nat.le_refl _,hxy,Nat.le_refl _,hlim,S0,hid (.refl L),HLO0,hid (fun D' _ h=>h)⟩
  case round=>
   clear S0 HLO0;obtain⟨p,r,lim,bal,par,D,rfl,rfl,rfl,rfl,rfl,h1,h2,h3,h4,S1,HW,HLO,HT⟩:=hrel;have HL:Hid (D.length=N):=hid (HW.out.len.trans HN.out);obtain⟨l,hl⟩:∃ z,p+z=r:=⟨r-p,by omega⟩
   have HLL:=hid hl;have ea37:(r:Int)-(p:Int)=(l:Int):=by omega
   have wa37:IntKind.i64.wrap ((r:Int)-(p:Int))=(l:Int):=by rw[IntKind.wrap_i64];omega
   have wb37:IntKind.i64.wrap (l:Int)=(l:Int):=by rw[IntKind.wrap_i64];omega
   clear hl;by_cases hl12:(l:Int)<=12
   ·have hl12d:decide ((l:Int)<=12)=true:=decide_eq_true hl12;have CI:=hid (insertion_r w0 b off N cap L0 D wr p r S1.out HL.out (by omega) (by omega) (by omega));go_wp2_with (go_at_call 169;refine CI.out.mono ?_;rintro e w2 ⟨rfl,D2,hS,hW2,hs2⟩);refine bodyPost_ret (v:=.tuple #[]) (by simp[results,Tryz.results159,go_sem]) rfl ?_;exact⟨rfl,D2,hS,HW.out.trans (hW2.mono (by omega) (by omega)),HT.out D2 hW2 hs2⟩
   ·have hl12d:decide ((l:Int)<=12)=false:=decide_eq_false hl12;have hpr:p+12<r:=by have:=HLL.out;omega
    by_cases hl0:lim=0
    ·subst hl0;have CI:=hid (heapSort_r w0 b off N cap L0 D wr p r S1.out HL.out (by omega) (by omega) (by omega));go_wp2_with (go_at_call 170;refine CI.out.mono ?_;rintro e w2 ⟨rfl,D2,hS,hW2,hs2⟩);refine bodyPost_ret (v:=.tuple #[]) (by simp[results,Tryz.results159,go_sem]) rfl ?_;exact⟨rfl,D2,hS,HW.out.trans (hW2.mono (by omega) (by omega)),HT.out D2 hW2 hs2⟩
    ·have hl0d:((lim:Int)==0)=false:=by simp;omega
     have hl0e:¬ (lim:Int)=0:=by omega
     go_upto_if 35 with fail;go_cut [3] from 19 to 133 (fun v3 wx=>∃ (lim2:Nat) (D1:List Int),v3=.int .i64 lim2/\lim2<=lim/\Hid (SE .i32 w0 b off L0 i32 D1 wx)/\Hid (Sw p r D D1))
     case first=>
      cases bal with
      | true=>
       go_wp2;go_meet;case rel=>exact⟨lim,D,rfl,Nat.le_refl _,S1,hid (.refl D)⟩
      | false=>
       have CB:=hid (breakPat_r w0 b off N cap L0 D wr p r S1.out HL.out (by omega) (by omega) (by omega));obtain⟨lim2,hlim2⟩:∃ z,z+1=lim:=⟨lim-1,by omega⟩
       have HLM:=hid hlim2;have ea32:(lim:Int)-1=(lim2:Int):=by omega
       have wa32:IntKind.i64.wrap ((lim:Int)-1)=(lim2:Int):=by rw[IntKind.wrap_i64];omega
       have wb32:IntKind.i64.wrap (lim2:Int)=(lim2:Int):=by rw[IntKind.wrap_i64];omega
       clear hlim2;go_wp2_with (go_at_call 171;refine CB.out.mono ?_;rintro e w2 ⟨rfl,D2,hS,hW2⟩);go_meet;case rel=>exact⟨lim2,D2,rfl,by have:=HLM.out;omega,hid hS,hid hW2⟩
     case rest=>
      obtain⟨lim2,D1,rfl,hlim2,S2,W2⟩:=hcut;have HL1:Hid (D1.length=N):=hid (W2.out.len.trans HL.out);clear S1;have CP:=hid (pivot_r w0 b off N cap L0 D1 wc p r S2.out HL1.out (by omega) (by omega) (by omega));go_upto_if 50 with (go_at_call 172;refine CP.out.mono ?_;rintro e w3 ⟨pv,h,rfl,hp1,hp2,hh,hS⟩;have S3:=hid hS;clear hS);go_cut [11,12] from 19 to 133 (fun v11 v12 wx=>∃ (pv:Nat) (h:Int) (D2:List Int),v11=.int .i64 pv/\v12=.int .i64 h/\p<=pv/\pv<r/\Hid (SE .i32 w0 b off L0 i32 D2 wx)/\Hid (Sw p r D1 D2))
      case first=>
       by_cases hh2:h=2
       ·subst hh2;have CR:=hid (reverse_r w0 b off N cap L0 D1 w3 p r S3.out HL1.out (by omega) (by omega) (by omega));obtain⟨p2,hp2e⟩:∃ z,z=r-1-(pv-p):=⟨_,rfl⟩
        obtain⟨r1,hr1⟩:∃ z,z+1=r:=⟨r-1,by omega⟩
        obtain⟨d1,hd1⟩:∃ z,p+z=pv:=⟨pv-p,by omega⟩
        have ea33:(r:Int)-1=(r1:Int):=by omega
        have wa33:IntKind.i64.wrap ((r:Int)-1)=(r1:Int):=by rw[IntKind.wrap_i64];omega
        have wb33:IntKind.i64.wrap (r1:Int)=(r1:Int):=by rw[IntKind.wrap_i64];omega
        have ea34:(pv:Int)-(p:Int)=(d1:Int):=by omega
        have wa34:IntKind.i64.wrap ((pv:Int)-(p:Int))=(d1:Int):=by rw[IntKind.wrap_i64];omega
        have wb34:IntKind.i64.wrap (d1:Int)=(d1:Int):=by rw[IntKind.wrap_i64];omega
        have ea35:(r1:Int)-(d1:Int)=(p2:Int):=by omega
        have wa35:IntKind.i64.wrap ((r1:Int)-(d1:Int))=(p2:Int):=by rw[IntKind.wrap_i64];omega
        have wb35:IntKind.i64.wrap (p2:Int)=(p2:Int):=by rw[IntKind.wrap_i64];omega
        have hq1:p<=p2:=by omega
        have hq2:p2<r:=by omega
        clear hp2e hr1 hd1;go_wp2_with (go_at_call 173;refine CR.out.mono ?_;rintro e w4 ⟨rfl,D2,hS,hW3⟩);go_meet;case rel=>exact⟨p2,1,D2,rfl,rfl,hq1,hq2,hid hS,hid hW3⟩
       ·have g2:(h==2)=false:=by simpa using hh2
        go_wp2;go_meet;case rel=>exact⟨pv,h,D1,rfl,rfl,hp1,hp2,S3,hid (.refl D1)⟩
      case rest=>
       clear S2 CP
       try clear S3 hp1 hp2 hh
       obtain⟨pv,h,D2,rfl,rfl,hp1,hp2,S2,W3⟩:=hcut;have HL2:Hid (D2.length=N):=hid (W3.out.len.trans HL1.out);go_upto_region 15 with fail;obtain⟨wk,hwk⟩:∃ z,z=wc:=⟨_,rfl⟩
       go_cut [68] from 19 to 133 (fun v wx=>∃ q:Bool,v=.bool q/\wx=wc)
       case first=>
        cases bal with
        | false=>
         go_wp2;go_meet;case rel=>exact⟨_,rfl,rfl⟩
        | true=>
         cases par with
         | false=>
          go_wp2;go_meet;case rel=>exact⟨_,rfl,rfl⟩
         | true=>
          go_wp2;go_meet;case rel=>exact⟨_,rfl,rfl⟩
       case rest=>
        obtain⟨q,rfl,rfl⟩:=hcut;have CQ:=hid (partial_r w0 b off N cap L0 D2 _ p r S2.out HL2.out (by omega) (by omega) (by omega) (HLO.out.sw (W2.out.trans W3.out) (by rw[HL.out];omega)));go_upto_if 68 with fail;go_cut [11] from 19 to 133 (fun v11 wx=>∃ (D3:List Int),v11=.int .i64 pv/\Hid (SE .i32 w0 b off L0 i32 D3 wx)/\Hid (Sw p r D2 D3))
        case first=>
         cases q with
         | false=>
          go_wp2;go_meet;case rel=>exact⟨D2,rfl,S2,hid (.refl D2)⟩
         | true=>
          go_wp2_with (go_at_call 174;refine CQ.out.mono ?_;rintro e w4 ⟨D3,rb,rfl,hS,hW4,hs4⟩;cases rb)
          ·go_wp2;go_meet;case rel=>exact⟨D3,rfl,hid hS,hid hW4⟩
          ·go_wp2;refine bodyPost_ret (v:=.tuple #[]) (by simp[results,Tryz.results159,go_sem]) rfl ?_;exact⟨rfl,D3,hS,HW.out.trans (((W2.out.trans W3.out).trans hW4).mono (by omega) (by omega)),HT.out D3 ((W2.out.trans W3.out).trans hW4) (by first | exact hs4 rfl | exact hs4 trivial | exact hs4)⟩
        case rest=>
         clear CQ S2;obtain⟨D3,rfl,S2,W4⟩:=hcut;have HL3:Hid (D3.length=N):=hid (W4.out.len.trans HL2.out);have WD:=hid ((W2.out.trans W3.out).trans W4.out);have HLO3:=hid (HLO.out.sw WD.out (by rw[HL.out];omega));clear W2 W3 W4 HL1 HL2 HLO;obtain⟨cnd,hcnd⟩:∃ z,z=decide (0<p/\¬ D3.getD (p-1) 0<D3.getD pv 0):=⟨_,rfl⟩
         have HC:=hid hcnd;clear hcnd;go_upto_region 17 with fail;go_cut [87] from 19 to 133 (fun v wx=>v=.bool cnd/\Hid (SE .i32 w0 b off L0 i32 D3 wx))
         case first=>
          by_cases hp0:0<p
          ·obtain⟨q,hq⟩:∃ z,z+1=p:=⟨p-1,by omega⟩
           have HQ:=hid hq;have bq:(q:Int)<(N:Int):=by omega
           have bv:(pv:Int)<(N:Int):=by omega
           have gp:(0:Int)<(p:Int):=by omega
           have gpd:decide ((p:Int) > 0)=true:=decide_eq_true gp;have gpe:decide ((0:Int)<(p:Int))=true:=decide_eq_true gp;have ea36:(p:Int)-1=(q:Int):=by omega
           have wa36:IntKind.i64.wrap ((p:Int)-1)=(q:Int):=by rw[IntKind.wrap_i64];omega
           have wb36:IntKind.i64.wrap (q:Int)=(q:Int):=by rw[IntKind.wrap_i64];omega
           clear hq;obtain⟨u,hu⟩:∃ z,z=D3.getD q 0:=⟨_,rfl⟩
           have HU:=hid hu;clear hu;obtain⟨v,hv⟩:∃ z,z=D3.getD pv 0:=⟨_,rfl⟩
           have HV:=hid hv;clear hv;have k1:=fun pF:Far wc=>(S2.out.more pF.ext).cell (i:=q) (by rw[HL3.out];omega);rw[<- HU.out] at k1;have k2:=fun pF:Far wc=>(S2.out.more pF.ext).cell (i:=pv) (by rw[HL3.out];omega);rw[<- HV.out] at k2;by_cases hlv:u<v
           ·have hvd:decide (u<v)=true:=decide_eq_true hlv;obtain rfl:cnd=false:=by rw[HC.out];exact decide_eq_false (fun h=>by have h:=h.2;rw[show p-1=q from by have:=HQ.out;omega,<- HU.out,<- HV.out] at h;exact h hlv)
            clear HU HV;go_wp2;refine wp_region_far (by kernel_rfl) (by kernel_rfl) ?_
            repeat (quiet_step (first | (go_at_call 175;refine Calls.far_of (Less_far _ _ _))))
            refine wpQuiet_nil ?_;intro w5 hw';obtain⟨pf,hw2⟩:=hw';have hx2:Ext wc w5:=by rw[hw2];exact pf.ext
            clear hw2 pf;have S3:=hid (S2.out.more hx2);clear hx2;go_wp2;go_meet;case rel=>exact⟨by first | rfl | simp[hvd],S3⟩
           ·have hvd:decide (u<v)=false:=decide_eq_false hlv;obtain rfl:cnd=true:=by rw[HC.out];exact decide_eq_true ⟨by omega,by rw[show p-1=q from by have:=HQ.out;omega,<- HU.out,<- HV.out];exact hlv⟩
            clear HU HV;go_wp2;refine wp_region_far (by kernel_rfl) (by kernel_rfl) ?_
            repeat (quiet_step (first | (go_at_call 175;refine Calls.far_of (Less_far _ _ _))))
            refine wpQuiet_nil ?_;intro w5 hw';obtain⟨pf,hw2⟩:=hw';have hx2:Ext wc w5:=by rw[hw2];exact pf.ext
            clear hw2 pf;have S3:=hid (S2.out.more hx2);clear hx2;go_wp2;go_meet;case rel=>exact⟨by first | rfl | simp[hvd],S3⟩
          ·have gp:¬ (0:Int)<(p:Int):=by omega
           have gpd:decide ((p:Int) > 0)=false:=decide_eq_false gp;have gpe:decide ((0:Int)<(p:Int))=false:=decide_eq_false gp;obtain rfl:cnd=false:=by rw[HC.out];exact decide_eq_false (fun h=>hp0 h.1)
           go_wp2;go_region;go_wp2;go_meet;case rel=>exact⟨by first | rfl | simp,hid (S2.out.more (Ext.refl _).drew)⟩
         case rest=>
          clear S2;obtain⟨rfl,S2⟩:=hcut
          cases cnd with
          | true=>
           have hc:=of_decide_eq_true HC.out.symm;have CE:=hid (partEq_r w0 b off N cap L0 D3 wc p r pv S2.out HL3.out (by omega) (by omega) hp1 hp2 (by omega) (fun k h1 h2=>by have:=HLO3.out hc.1 k h1 h2;have:=hc.2;omega));clear hc HC HLO3;go_wp2_with (go_at_call 176;refine CE.out.mono ?_;rintro e w5 ⟨D4,mid,rfl,hS,hW5,hm1,hm2,hPe⟩);have S4:=hid hS;have hmid:=And.intro hm1 hm2;have HT2:=hid (show ∀ D',Sw mid r D4 D'->Sd mid r D'->Sd x y D' from fun D' h1 h2=>HT.out D' ((WD.out.trans hW5).trans (h1.mono (by omega) (Nat.le_refl _))) (hPe.done (by rw[hW5.len,HL3.out];omega) ⟨hm1,hm2⟩ D' h1 h2))
           have HLO4:=hid (show Lo mid r D4 from fun h0 k h1 h2=>by
            have e1:=hPe.lo (mid-1) (by omega) (by omega);have e2:=hPe.hi k h1 h2
            omega)
           have HW4:=hid (show Sw x y L D4 from HW.out.trans ((WD.out.trans hW5).mono (by omega) (by omega)));clear hS hPe hW5 HT HW WD;go_roundw
           case rel=>
            first
             | exact⟨mid,r,lim2,bal,par,_,by first | rfl | go_num,by first | rfl | go_num,by first | rfl | go_num,rfl,rfl,by omega,by omega,by omega,by omega,S4,HW4,HLO4,HT2⟩
             | ((repeat apply Exists.intro);exact⟨⟨mid,r,lim2,bal,par,_,by first | rfl | go_num,by first | rfl | go_num,by first | rfl | go_num,rfl,rfl,by omega,by omega,by omega,by omega,S4,HW4,HLO4,HT2⟩,rfl⟩)
           case measure=>simp[intOf] <;> omega
          | false=>
           clear HC;have CE:=hid (partition_r w0 b off N cap L0 D3 wc p r pv S2.out HL3.out (by omega) (by omega) hp1 hp2 (by omega));go_upto_if 113 with (go_at_call 177;refine CE.out.mono ?_;rintro e w5 ⟨D4,mid,al,rfl,hS,hW5,hm1,hm2,hPe⟩;have S4:=hid hS;have W5:=hid hW5;have HP4:=hid hPe;have HL4:Hid (D4.length=N):=hid (hW5.len.trans HL3.out);clear hS hW5 hPe);have HLO4:=hid (HLO3.out.sw W5.out (by rw[HL3.out];omega));have HLOp:=hid (show Lo p mid D4 from fun h0 k h1 h2=>HLO4.out h0 k h1 (by omega));have HLOq:=hid (show Lo (mid+1) r D4 from fun h0 k h1 h2=>HP4.out.hi k (by omega) h2);clear CE S2 HLO3;by_cases hlr:(mid:Int)-(p:Int)<(r:Int)-(mid:Int)
           ·have hlrd:decide ((mid:Int)-(p:Int)<(r:Int)-(mid:Int))=true:=decide_eq_true hlr;have C5:=hid (ih (mid-p) (by omega) D4 w5 p mid lim2 (Nat.le_refl _) S4.out HL4.out (by omega) (by omega) HLOp.out (by omega));go_wp2_with (go_at_call 159;refine C5.out.mono ?_;rintro e w6 ⟨rfl,D5,hS5,hW6,hs6⟩);have S5:=hid hS5;have HT2:=hid (show ∀ D',Sw (mid+1) r D5 D'->Sd (mid+1) r D'->Sd x y D' from fun D' h1 h2=>HT.out D' (((WD.out.trans W5.out).trans (hW6.mono (Nat.le_refl _) (by omega))).trans (h1.mono (by omega) (Nat.le_refl _))) (HP4.out.left (by rw[HL4.out];omega) ⟨hm1,hm2⟩ hW6 hs6 D' h1 h2))
            have HLO5:=hid (show Lo (mid+1) r D5 from fun h0 k h1 h2=>by
             rw[show mid+1-1=mid from rfl,hW6.out (by rw[HL4.out];omega) (.inr (Nat.le_refl _)),hW6.out (by rw[HL4.out];omega) (.inr (by omega))]
             exact HP4.out.hi k (by omega) h2)
            have HW5:=hid (show Sw x y L D5 from HW.out.trans (((WD.out.trans W5.out).trans (hW6.mono (Nat.le_refl _) (by omega))).mono (by omega) (by omega)));clear hS5 hW6 hs6 HT HW WD W5 HP4 HLO4 HLOp HLOq C5;go_roundw
            case rel=>
             first
              | exact⟨mid+1,r,lim2,_,al,_,by first | rfl | go_num,by first | rfl | go_num,by first | rfl | go_num,rfl,rfl,by omega,by omega,by omega,by omega,S5,HW5,HLO5,HT2⟩
              | ((repeat apply Exists.intro);exact⟨⟨mid+1,r,lim2,_,al,_,by first | rfl | go_num,by first | rfl | go_num,by first | rfl | go_num,rfl,rfl,by omega,by omega,by omega,by omega,S5,HW5,HLO5,HT2⟩,rfl⟩)
            case measure=>simp[intOf] <;> omega
           ·have hlrd:decide ((mid:Int)-(p:Int)<(r:Int)-(mid:Int))=false:=decide_eq_false hlr;have C5:=hid (ih (r-(mid+1)) (by omega) D4 w5 (mid+1) r lim2 (Nat.le_refl _) S4.out HL4.out (by omega) (by omega) HLOq.out (by omega));go_wp2_with (go_at_call 159;refine C5.out.mono ?_;rintro e w6 ⟨rfl,D5,hS5,hW6,hs6⟩);have S5:=hid hS5;have HT2:=hid (show ∀ D',Sw p mid D5 D'->Sd p mid D'->Sd x y D' from fun D' h1 h2=>HT.out D' (((WD.out.trans W5.out).trans (hW6.mono (by omega) (Nat.le_refl _))).trans (h1.mono (Nat.le_refl _) (by omega))) (HP4.out.right (by rw[HL4.out];omega) ⟨hm1,hm2⟩ hW6 hs6 D' h1 h2));have HLO5:=hid (show Lo p mid D5 from fun h0 k h1 h2=>(HLO4.out.sw (hW6.mono (by omega) (Nat.le_refl _)) (by rw[HL4.out];omega)) h0 k h1 (by omega));have HW5:=hid (show Sw x y L D5 from HW.out.trans (((WD.out.trans W5.out).trans (hW6.mono (by omega) (Nat.le_refl _))).mono (by omega) (by omega)));clear hS5 hW6 hs6 HT HW WD W5 HP4 HLO4 HLOp HLOq C5;go_roundw
            case rel=>
             first
              | exact⟨p,mid,lim2,_,al,_,by first | rfl | go_num,by first | rfl | go_num,by first | rfl | go_num,rfl,rfl,by omega,by omega,by omega,by omega,S5,HW5,HLO5,HT2⟩
              | ((repeat apply Exists.intro);exact⟨⟨p,mid,lim2,_,al,_,by first | rfl | go_num,by first | rfl | go_num,by first | rfl | go_num,rfl,rfl,by omega,by omega,by omega,by omega,S5,HW5,HLO5,HT2⟩,rfl⟩)
            case measure=>simp[intOf] <;> omega
end Go.Proofs.YthomjcjnalfipaaGreatDoor
namespace Go.Proofs.YthomjcjnalfipaaGreatDoor
open Go.RowKit Go.Sort
open Go.Shelf Go.Lib in
theorem bitsLen_any (n:Nat) (hn:n<4611686018427387904) (w:World):Calls Tryz.prog 96 #[.int .u64 n] w fun e w'=>e=.returned (.int .i64 (bitsLen n:Nat))/\w'=w:=by
 have h:=Any.bits_Len (SlLaysF0.n15.bits (P:=Tryz.prog) (ρ:=sortSp_ren) { sortSp with }) (n:Int) w (by omega) (by omega)
 rwa [Int.toNat_natCast,bitLen_eq _ (by omega)] at h
theorem SortR_any (b off N cap:Nat) (L:List Int) (w:World) (S:SE .i32 w b off L i32 L w) (hN:L.length=N) (hm:N<1152921504606846976) :
  Calls Tryz.prog 134 #[.slice (some ⟨b,off,none⟩) N cap] w fun e w'=>e=.returned (.tuple #[])/\∃ D,SE .i32 w b off L i32 D w'/\D.Perm L/\D.Pairwise (·<= ·):=by
 have CL:=hid (bitsLen_any N (by omega));obtain⟨k,hk⟩:∃ k,bitsLen N=k:=⟨_,rfl⟩
 have hk2:k<=62:=by rw[<- hk];exact (bitsLen_le_iff N 62).2 (by omega)
 rw[hk] at CL;have wn:IntKind.u64.wrap (N:Int)=(N:Int):=by simp[IntKind.wrap,IntKind.bits,IntKind.signed];omega
 have CP:=hid (pdq_r w b off N cap L hm N L w 0 N k (by omega) S hN (Nat.zero_le _) (Nat.le_refl _) (fun h=>by omega) (by omega));have HN:=hid hN;clear S hk hN;go_enter Tryz.func134,Tryz.ntmps134
 go_wp2_with (first
  | (go_at_call 96;refine (CL.out _).mono ?_;rintro e w' ⟨rfl,rfl⟩)
  | (go_at_call 159;refine CP.out.mono ?_;rintro e w' ⟨rfl,D,hS,hW,hs⟩))
 go_end0;refine⟨rfl,D,hS,hW.perm (by rw[HN.out];exact Nat.le_refl _),Sd.pw ?_⟩;rw[hW.len,HN.out];exact hs
end Go.Proofs.YthomjcjnalfipaaGreatDoor
namespace Go.Proofs.YthomjcjnalfipaaGreatDoor
theorem drop_cons {α :Type} {l:List α} {k:Nat} {x: α} (h:l[k]? =some x):l.drop k=x::l.drop (k+1):=by
 obtain⟨hk,rfl⟩:=List.getElem?_eq_some_iff.1 h;exact List.drop_eq_getElem_cons hk
theorem drop_end {α :Type} {l:List α} {k n:Nat} (hl:l.length=n) (h:¬ k<n):l.drop k=[]:=List.drop_of_length_le (by omega)
def right (r:Int):Bool:=decide (0<=r)&&decide (r<=1114111)&&(decide (r<55296)||decide (57343<r))
def idxFrom {α :Type} (p: α ->Bool):Nat->List α ->Int
 | _,[]=>-1
 | k,x::r=>if p x then (k:Int) else idxFrom p (k+1) r
theorem idxFrom_neg {α :Type} (p: α ->Bool):∀ (k:Nat) (l:List α),l.any p=false->idxFrom p k l= -1
 | _,[],_=>rfl
 | k,x::r,h=>by
  simp only[List.any_cons,Bool.or_eq_false_iff] at h;simp[idxFrom,h.1,idxFrom_neg p (k+1) r h.2]
theorem idxFrom_nonneg {α :Type} (p: α ->Bool):∀ (k:Nat) (l:List α),l.any p=true->0<=idxFrom p k l
 | _,[],h=>by simp at h
 | k,x::r,h=>by
  unfold idxFrom;split
  ·omega
  ·rename_i hx;simp only[List.any_cons,Bool.or_eq_true] at h;exact idxFrom_nonneg p (k+1) r (h.resolve_left hx)
theorem idxFrom_geq {α :Type} (p: α ->Bool) (k:Nat) (l:List α):decide (0<=idxFrom p k l)=l.any p:=by
 cases h:l.any p
 ·rw[idxFrom_neg p k l h];rfl
 ·simpa using idxFrom_nonneg p k l h
theorem idxFrom_le {α :Type} (p: α ->Bool):∀ (k:Nat) (l:List α),-1<=idxFrom p k l/\idxFrom p k l<=k+l.length
 | k,[]=>by simp only[idxFrom,List.length_nil];omega
 | k,x::r=>by
  unfold idxFrom;have h:=idxFrom_le p (k+1) r;simp only[List.length_cons];split <;> omega
def spBad (x:Sp):Bool:=decide (x.lo<0)||decide (1114111<x.hi)||decide (x.hi<x.lo)
def near (p:Option Sp) (x:Sp):Bool:=match p with | none=>false | some y=>decide (x.lo<=y.hi+1)
def wrongFrom:Option Sp->List Sp->Int
 | _,[]=>0
 | p,x::r=>if spBad x then 3 else if near p x then 2 else wrongFrom (some x) r
theorem wrongFrom_bad {p:Option Sp} {x:Sp} {r:List Sp} (h:spBad x=true):wrongFrom p (x::r)=3:=by simp[wrongFrom,h]
theorem wrongFrom_near {p:Option Sp} {x:Sp} {r:List Sp} (h:spBad x=false) (hn:near p x=true):wrongFrom p (x::r)=2:=by simp[wrongFrom,h,hn]
theorem wrongFrom_next {p:Option Sp} {x:Sp} {r:List Sp} (h:spBad x=false) (hn:near p x=false):wrongFrom p (x::r)=wrongFrom (some x) r:=by simp[wrongFrom,h,hn]
theorem near_yes {x y:Sp} (h:x.lo<=y.hi+1):near (some y) x=true:=by simpa [near] using h
theorem near_no {x y:Sp} (h:¬ x.lo<=y.hi+1):near (some y) x=false:=by simpa [near] using h
theorem spBad_no {x:Sp} (h:spBad x=false):0<=x.lo/\x.hi<=1114111/\x.lo<=x.hi:=by
 have:¬ x.lo<0/\¬ 1114111<x.hi/\¬ x.hi<x.lo:=by simpa [spBad,and_assoc] using h
 omega
theorem spBad_yes {x:Sp} (h:spBad x=true):x.lo<0\/1114111<x.hi\/x.hi<x.lo:=by simpa [spBad,or_assoc] using h
def wrongSet (s:List Sp):Int:=if 200<s.length then 5 else wrongFrom none s
def prev {α :Type} (l:List α) (k:Nat):Option α:=if k=0 then none else l[k-1]?
theorem prev_succ {α :Type} {l:List α} {k:Nat} {x: α} (h:l[k]? =some x):prev l (k+1)=some x:=by simp[prev,h]
def inSp (x:Sp) (r:Int):Bool:=decide (x.lo<=r)&&decide (r<=x.hi)
def has (s:List Sp) (r:Int):Bool:=s.any fun x=>inSp x r
def wrongSets:List (List Sp)->Int
 | []=>0
 | s::r=>if wrongSet s≠0 then wrongSet s else wrongSets r
def wrongSide (l:List (List Sp)):Int:=if 20<l.length then 5 else wrongSets l
def wrongSides:List (List (List Sp))->Int
 | []=>0
 | s::r=>if wrongSide s≠0 then wrongSide s else wrongSides r
theorem wrongSets_bad {s:List Sp} {r:List (List Sp)} (h:wrongSet s≠0):wrongSets (s::r)=wrongSet s:=by unfold wrongSets;rw[if_pos h]
theorem wrongSets_ok {s:List Sp} {r:List (List Sp)} (h:wrongSet s=0):wrongSets (s::r)=wrongSets r:=by rw[wrongSets,if_neg (by simp[h])]
theorem wrongSides_bad {s:List (List Sp)} {r:List (List (List Sp))} (h:wrongSide s≠0):wrongSides (s::r)=wrongSide s:=by unfold wrongSides;rw[if_pos h]
theorem wrongSides_ok {s:List (List Sp)} {r:List (List (List Sp))} (h:wrongSide s=0):wrongSides (s::r)=wrongSides r:=by rw[wrongSides,if_neg (by simp[h])]
theorem wrongSide_big {s:List (List Sp)} {n:Nat} (hl:s.length=n) (h:20<n):wrongSide s=5:=by unfold wrongSide;rw[if_pos (by omega)]
theorem wrongSide_small {s:List (List Sp)} {n:Nat} (hl:s.length=n) (h:¬ 20<n):wrongSide s=wrongSets s:=by unfold wrongSide;rw[if_neg (by omega)]
theorem wrongFrom_bd:∀ (l:List Sp) (p:Option Sp),0<=wrongFrom p l/\wrongFrom p l<=3
 | [],_=>by simp[wrongFrom]
 | x::r,p=>by
  unfold wrongFrom;have:=wrongFrom_bd r (some x);split
  ·omega
  ·split <;> omega
theorem wrongSet_bd (s:List Sp):0<=wrongSet s/\wrongSet s<=5:=by
 unfold wrongSet;have:=wrongFrom_bd s none;split <;> omega
def wrongRule (r:Rule):Int:=
 if wrongSides [r.before,r.source,r.after]≠0 then wrongSides [r.before,r.source,r.after]
 else if r.source.length=0 then 6 else if 20<r.target.length then 5 else if !(r.target.all right) then 3
 else if r.cursor<0\/(r.target.length:Int)<r.cursor then 3 else 0
theorem wrongRule_sides {r:Rule} (h:wrongSides [r.before,r.source,r.after]≠0):wrongRule r=wrongSides [r.before,r.source,r.after]:=by unfold wrongRule;rw[if_pos h]
def wrongRest (r:Rule):Int:=if r.source.length=0 then 6 else if 20<r.target.length then 5 else if !(r.target.all right) then 3
 else if r.cursor<0\/(r.target.length:Int)<r.cursor then 3 else 0
theorem wrongRule_rest {r:Rule} (h:wrongSides [r.before,r.source,r.after]=0):wrongRule r=wrongRest r:=by unfold wrongRule;rw[if_neg (by simp[h])];rfl
def wrongText (l:List Int):Int:=if 4000<l.length then 4 else if !(l.all right) then 3 else 0
end Go.Proofs.YthomjcjnalfipaaGreatDoor
namespace Go.Proofs.YthomjcjnalfipaaGreatDoor
structure Good (l:List Sp):Prop where
 len:l.length<=200
 rng:∀ x∈l,0<=x.lo/\x.lo<=x.hi/\x.hi<=1114111
 pw:l.Pairwise fun a b=>a.hi+1<b.lo
theorem wrongFrom_zero:∀ (l:List Sp) (p:Option Sp),wrongFrom p l=0 ->
  (∀ x∈l,0<=x.lo/\x.lo<=x.hi/\x.hi<=1114111)/\l.Pairwise (fun a b=>a.hi+1<b.lo)/\∀ y,p=some y->∀ x∈l,y.hi+1<x.lo
 | [],p,_=>⟨fun x hx=>by simp at hx,List.Pairwise.nil,fun y _ x hx=>by simp at hx⟩
 | x::r,p,h=>by
  unfold wrongFrom at h;by_cases hb:spBad x=true
  ·rw[if_pos hb] at h;simp at h
  ·rw[if_neg hb] at h;by_cases hn:near p x=true
   ·rw[if_pos hn] at h;simp at h
   ·rw[if_neg hn] at h;have hb':=spBad_no (by simpa using hb);obtain⟨h1,h2,h3⟩:=wrongFrom_zero r (some x) h;have h3':=h3 x rfl
    have hn':∀ y,p=some y->y.hi+1<x.lo:=fun y hy=>by
     subst hy;simp only[near,decide_eq_true_eq] at hn;omega
    refine⟨fun z hz=>?_,List.Pairwise.cons h3' h2,fun y hy z hz=>?_⟩
    ·rcases List.mem_cons.1 hz with rfl | hz
     ·omega
     ·exact h1 z hz
    ·rcases List.mem_cons.1 hz with rfl | hz
     ·exact hn' y hy
     ·have:=hn' y hy;have:=h3' z hz;omega
theorem good_of {l:List Sp} (h:wrongSet l=0):Good l:=by
 unfold wrongSet at h;by_cases hb:200<l.length
 ·rw[if_pos hb] at h;simp at h
 ·rw[if_neg hb] at h;obtain⟨h1,h2,_⟩:=wrongFrom_zero l none h;exact⟨by omega,h1,h2⟩
def Found (p:Nat->Bool) (n i:Nat):Prop:=i<=n/\(0<i->p (i-1)=false)/\(i<n->p i=true)
theorem pw_get {l:List Sp} (h:l.Pairwise fun a b=>a.hi+1<b.lo) {i j:Nat} {x y:Sp} (hij:i<j) (hx:l[i]? =some x) (hy:l[j]? =some y):x.hi+1<y.lo:=by
 obtain⟨hi,rfl⟩:=List.getElem?_eq_some_iff.1 hx;obtain⟨hj,rfl⟩:=List.getElem?_eq_some_iff.1 hy;exact List.pairwise_iff_getElem.1 h i j hi hj hij
theorem has_iff {l:List Sp} {r:Int}:has l r=true↔∃ x∈l,x.lo<=r/\r<=x.hi:=by
 simp[has,inSp]
theorem getD_of {α :Type} [Inhabited α] {l:List α} {i:Nat} {x: α} (h:l[i]? =some x):l.getD i default=x:=by simp[List.getD,h]
theorem get_lt {α :Type} {l:List α} {i:Nat} (h:i<l.length):∃ x,l[i]? =some x:=⟨l[i],List.getElem?_eq_getElem h⟩
theorem has_found {l:List Sp} (h:Good l) {r:Int} {i:Nat} (hf:Found (fun j=>decide (r<=(l.getD j default).hi)) l.length i) :
  has l r=(decide (i<l.length)&&decide ((l.getD i default).lo<=r)):=by
 obtain⟨h1,h2,h3⟩:=hf;by_cases hi:i<l.length
 ·obtain⟨x,hx⟩:=get_lt hi;rw[getD_of hx];have hxr:r<=x.hi:=by have:=h3 hi;simpa only[getD_of hx,decide_eq_true_eq] using this
  simp only[hi,decide_true,Bool.true_and];rw[Bool.eq_iff_iff,has_iff,decide_eq_true_eq];constructor
  ·rintro⟨y,hy,hy1,hy2⟩;obtain⟨j,hj⟩:=List.getElem?_of_mem hy;rcases Nat.lt_trichotomy j i with hji | rfl | hji
   ·exfalso;obtain⟨z,hz⟩:=get_lt (l:=l) (i:=i-1) (by omega);have hz2:=h2 (by omega);simp only[getD_of hz,decide_eq_false_iff_not] at hz2;rcases Nat.lt_or_ge j (i-1) with hlt | hge
    ·have:=pw_get h.pw hlt hj hz;have:=h.rng z (List.mem_of_getElem? hz);omega
    ·have:j=i-1:=by omega
     subst this;rw[hz] at hj;cases hj;omega
   ·rw[hx] at hj;cases hj;exact hy1
   ·have:=pw_get h.pw hji hx hj;omega
  ·intro hlo;exact⟨x,List.mem_of_getElem? hx,hlo,hxr⟩
 ·simp only[hi,decide_false,Bool.false_and];rw[Bool.eq_false_iff];intro hh;obtain⟨y,hy,hy1,hy2⟩:=has_iff.1 hh;obtain⟨j,hj⟩:=List.getElem?_of_mem hy;have hjl:=lt_of_get hj;have hil:i=l.length:=by omega
  obtain⟨z,hz⟩:=get_lt (l:=l) (i:=i-1) (by omega);have hz2:=h2 (by omega);simp only[getD_of hz,decide_eq_false_iff_not] at hz2;rcases Nat.lt_or_ge j (i-1) with hlt | hge
  ·have:=pw_get h.pw hlt hj hz;have:=h.rng z (List.mem_of_getElem? hz);omega
  ·have:j=i-1:=by omega
   subst this;rw[hz] at hj;cases hj;omega
end Go.Proofs.YthomjcjnalfipaaGreatDoor
namespace Go.Proofs.YthomjcjnalfipaaGreatDoor
def zipHas:List (List Sp)->List Int->Bool
 | [],_=>true
 | _::_,[]=>false
 | s::r,x::t=>has s x&&zipHas r t
def allAt (t:List Int) (at_:Int) (l:List (List Sp)):Bool:=decide (0<=at_)&&decide (at_+l.length<=t.length)&&zipHas l (t.drop at_.toNat)
theorem allAt_neg {t:List Int} {a:Int} {l:List (List Sp)} (h:a<0):allAt t a l=false:=by
 unfold allAt;rw[decide_eq_false (by omega)];rfl
theorem allAt_far {t:List Int} {a:Int} {l:List (List Sp)} (h:(t.length:Int)-l.length<a):allAt t a l=false:=by
 unfold allAt;rw[decide_eq_false (p:=a+l.length<=t.length) (by omega)];simp
theorem allAt_in {t:List Int} {a:Int} {l:List (List Sp)} (h0:0<=a) (h:a<=(t.length:Int)-l.length):allAt t a l=zipHas l (t.drop a.toNat):=by
 unfold allAt;rw[decide_eq_true h0,decide_eq_true (by omega)];rfl
def here (r:Rule) (t:List Int) (at_:Int):Bool:=
 allAt t at_ r.source&&allAt t (at_-r.before.length) r.before&&allAt t (at_+r.source.length) r.after &&
  !(r.start&&decide (at_≠r.before.length))&& !(r.fin&&decide (at_+r.source.length+r.after.length≠t.length))
def okSets (l:List (List Sp)):Prop:=∀ s∈l,wrongSet s=0
end Go.Proofs.YthomjcjnalfipaaGreatDoor
namespace Go.Proofs.YthomjcjnalfipaaGreatDoor
open Go.RowKit
theorem same_step {α :Type} {l m:List α} {k:Nat} {x: α} (h:l.take k=m.take k) (hl:l[k]? =some x) (hm:m[k]? =some x):l.take (k+1)=m.take (k+1):=by
 rw[take_snoc hl,take_snoc hm,h]
theorem Same_any (A B:Option Addr) (n c n' d:Nat) (l m:List Int) (w:World) (hA:Runes w A n c l) (hB:Runes w B n' d m) :
  Calls Tryz.prog 12 #[.slice A n c,.slice B n' d] w fun e w'=>e=.returned (.bool (decide (l=m)))/\Ext w w':=by
 have h1:=hid hA.len;have h2:=hid hB.len;have hmA:=hA.max;have hcA:=hA.cap;unfold maxLen at hmA;by_cases hlm:n=n'
 ·subst hlm;have hn:((n:Int) != (n:Int))=false:=by simp
  go_enter Tryz.func12,Tryz.ntmps12;go_wp2;go_loopw [13] (fun i wr=>∃ k:Nat,k<=n/\i=.int .i64 k/\l.take k=m.take k/\Ext w wr) (fun i _=>n-(intOf i).toNat);case atStart=>exact⟨0,by omega,rfl,rfl,Ext.refl _⟩
  case round=>
   obtain⟨k,hk,rfl,hkk,hx⟩:=hrel;have HK:=hid hkk;clear hkk;by_cases hlt:k<n
   ·obtain⟨x,hxx⟩:=hA.idx hlt;obtain⟨y,hyy⟩:=hB.idx hlt;obtain⟨b,off,rfl,_,hc,_⟩:=(hA.ext hx).rune hxx;obtain⟨b2,off2,rfl,_,hc2,_⟩:=(hB.ext hx).rune hyy;by_cases heq:x=y
    ·subst heq;have HX:=hid hxx;have HY:=hid hyy;clear hxx hyy;go_wp2;go_quiet (fail);go_wp2;go_roundw;case rel=>exact⟨k+1,by omega,by go_num,same_step HK.out HX.out HY.out,hx.drewN _⟩
     case measure=>simp[intOf];omega
    ·have hne:(x != y)=true:=by simpa using heq
     have hd:decide (l=m)=false:=by simp;rintro rfl;rw[hxx] at hyy;cases hyy;exact heq rfl
     have HD:=hid hd;clear hd heq hxx hyy;go_wp2;go_quiet (fail);go_wp2;go_ret;rw[HD.out];exact⟨rfl,hx.drewN _⟩
   ·have hd:decide (l=m)=true:=by
     have h3:=HK.out;rw[take_all h1.out (by omega),take_all h2.out (by omega)] at h3;simpa using h3
    have HD:=hid hd;clear hd;go_wp2;go_ret;rw[HD.out];exact⟨rfl,hx⟩
 ·have hn:((n:Int) != (n':Int))=true:=by simp;omega
  have hd:decide (l=m)=false:=by simp;rintro rfl;exact hlm (h1.out.symm.trans h2.out)
  have H:=hid hd;clear hd;go_enter Tryz.func12,Tryz.ntmps12;go_wp2;go_ret;rw[H.out];exact⟨rfl,Ext.refl _⟩
end Go.Proofs.YthomjcjnalfipaaGreatDoor
