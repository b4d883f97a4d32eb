/- A part of the proofs of the Top laws. -/
import Derived.Deep.RegionHeld3
import Derived.Test.YthomjcjnalfipaaGreatDoorCards
import Derived.Test.YthomjcjnalfipaaGreatDoorTie
import Derived.WalkKit
import Derived.ProofKit
import Derived.OpenShut
import Derived.Deep.DeepHandedRow
import Derived.Deep.DeepWitnessRowRef
import Derived.Lib.LaidIn
import Derived.JoinedCond
import Derived.Deep.Cut
import Derived.Deep.CutRange
import Derived.Test.YthomjcjnalfipaaGreatDoorRows
import Derived.ChangeOld
import Derived.Deep.Fields
import Derived.Test.YthomjcjnalfipaaGreatDoorYB39
import Derived.Test.YthomjcjnalfipaaGreatDoorYB43
set_option linter.all false
set_option maxRecDepth 100000
set_option maxHeartbeats 4000000
open Go.Lib (hid)
namespace Go.Proofs.YthomjcjnalfipaaGreatDoor
open Go.RowKit
theorem rScript.keep {base:Nat} {w w':World} {v:Value} {s:Script} (h:rScript base w v s) (ha:Agree (fun b=>base<=b) w w'):rScript base w' v s:=by
 obtain⟨A1,n1,c1,A2,n2,c2,e,h1,h2⟩:=h;exact⟨A1,n1,c1,A2,n2,c2,e,h1.keep (keep_span _) ha,h2.keep (keep_pas _) ha⟩
theorem rScript.low {base base':Nat} {w:World} {v:Value} {s:Script} (hb:base'<=base) (h:rScript base w v s):rScript base' w v s:=by
 obtain⟨A1,n1,c1,A2,n2,c2,e,h1,h2⟩:=h;have hl:∀ b,base<=b->base'<=b:=fun b h=>Nat.le_trans hb h;exact⟨A1,n1,c1,A2,n2,c2,e,h1.mono (fun _ _ h=>h) hl,h2.mono (fun vs x hx=>mono_pas hl hx) hl⟩
theorem Forth_any {ok:Nat->Prop} (A:Option Addr) (n c:Nat) (l:List Part) (w:World) (h:Pts ok w A n c l) :
  Calls Tryz.prog 23 #[.slice A n c] w fun e w'=>(∃ v,e=.returned (.tuple #[v,.agg #[.int .i64 (readyF l).err,.int .i64 (readyF l).at_]])/\rScript w.heap.size w' v (readyF l).forth)/\Ext w w':=by
 have x1:Ext w ((w.alloc (.cells #[.bool false,.slice none 0 0,.slice none 0 0] 26)).alloc (.cells #[.int .i64 0,.int .i64 0] 34)):=((Ext.refl w).alloc _).alloc _;have HR:=hid (ready_any A n c l ((w.alloc (.cells #[.bool false,.slice none 0 0,.slice none 0 0] 26)).alloc (.cells #[.int .i64 0,.int .i64 0] 34)) (h.ext (fam_pt.keep ok) x1));have SA:=hid ((ScV.new w false none 0 0 none 0 0 26).ext ((Ext.refl _).alloc (.cells #[.int .i64 0,.int .i64 0] 34)));have FA:=hid (FaV.new (w.alloc (.cells #[.bool false,.slice none 0 0,.slice none 0 0] 26)) 0 0 34);simp only[World.size_alloc] at FA;obtain⟨R,hR⟩:∃ R,readyF l=R:=⟨_,rfl⟩
 rw[hR] at HR ⊢;obtain⟨⟨ff,fo,fp⟩,⟨bf,bo,bp⟩,er,at_⟩:=R;have X1:=hid x1;clear x1 h hR;go_enter Tryz.func23,Tryz.ntmps23
 go_wp2_with (first
  | (go_at_call 49;(((refine (HR.out).mono ?_);rintro e w2 ⟨⟨v1,v2,rfl,r1,r2⟩,x2⟩;have R1:=hid r1;have R2:=hid r2;obtain⟨A1,n1,c1,A2,n2,c2,rfl,h1⟩:=r1;obtain⟨A3,n3,c3,A4,n4,c4,rfl,h2⟩:=r2;have X2:=hid x2;have SA2:=hid (SA.out.ext x2);have FA2:=hid (FA.out.ext x2);obtain⟨a0,a1,a2,az,al⟩:=SA2.out;obtain⟨f0,f1,fz,fl⟩:=FA2.out;clear h1 h2 x2))))
 obtain⟨w5,hw5⟩:∃ z,z=((w2.alloc (.cells #[.bool ff,.slice A1 n1 c1,.slice A2 n2 c2] 26)).alloc (.cells #[.bool bf,.slice A3 n3 c3,.slice A4 n4 c4] 26)).alloc (.cells #[.int .i64 er,.int .i64 at_] 34):=⟨_,rfl⟩
 have x5:Ext w2 w5:=by rw[hw5];exact (((Ext.refl w2).alloc _).alloc _).alloc _
 have S4:=hid ((ScV.new w2 ff A1 n1 c1 A2 n2 c2 26).ext ((Ext.refl _).alloc (.cells #[.bool bf,.slice A3 n3 c3,.slice A4 n4 c4] 26) |>.alloc (.cells #[.int .i64 er,.int .i64 at_] 34)));have S5:=hid ((ScV.new (w2.alloc (.cells #[.bool ff,.slice A1 n1 c1,.slice A2 n2 c2] 26)) bf A3 n3 c3 A4 n4 c4 26).ext ((Ext.refl _).alloc (.cells #[.int .i64 er,.int .i64 at_] 34)));have S6:=hid (FaV.new ((w2.alloc (.cells #[.bool ff,.slice A1 n1 c1,.slice A2 n2 c2] 26)).alloc (.cells #[.bool bf,.slice A3 n3 c3,.slice A4 n4 c4] 26)) er at_ 34);simp only[World.size_alloc] at S4 S5 S6;rw[<- hw5] at S4 S5 S6 ⊢;have SA5:=hid (SA2.out.ext x5);have FA5:=hid (FA2.out.ext x5);have hb:=al.1;have hb2:=fl.1;clear a0 a1 a2 az al f0 f1 fz fl hw5;obtain⟨a0,a1,a2,az,al⟩:=SA5.out;obtain⟨f0,f1,fz,fl⟩:=FA5.out;obtain⟨p0,p1,p2,pz,pl⟩:=S4.out;obtain⟨q0,q1,q2,qz,ql⟩:=S5.out;obtain⟨g0,g1,gz,gl⟩:=S6.out;go_region;go_wp2;refine bodyPost_ret (v:=.tuple #[.agg #[.bool ff,.slice A1 n1 c1,.slice A2 n2 c2],.agg #[.int .i64 er,.int .i64 at_]]) (by simp[results,Tryz.results23,go_sem,a0,a1,a2,f0,f1]) rfl ?_;refine⟨⟨_,rfl,?_⟩,?_⟩
 ·refine rScript.low (base:=w.heap.size+1+1) (by omega) (rScript.keep ?_ (w:=w5) ?_)
  ·exact rScript.keep (by simpa only[World.size_alloc] using R1.out) (x5.agree _)
  ·intro b hb hl;show (World.setCell _ _ _).heap[b]? =_;have hn1:b≠w.heap.size:=by omega
   have hn2:b≠w.heap.size+1:=by omega
   simp only[heap_setB hn1,heap_setB hn2]
 ·refine Ext.drew ?_
  repeat (first | exact (X1.out.trans X2.out).trans x5 | refine ext_set ?_ (by omega) _ _)
theorem Go_any (f:Bool) (A1:Option Addr) (n1 c1:Nat) (A2:Option Addr) (n2 c2:Nat) (on:List Sp) (ps:List Pas) (X:Option Addr) (m d:Nat) (t:List Int) (w:World) (h1:Spans w A1 n1 c1 on) (h2:Pss top w A2 n2 c2 ps) (ht:Runes w X m d t) :
  Calls Tryz.prog 10 #[.agg #[.bool f,.slice A1 n1 c1,.slice A2 n2 c2],.slice X m d] w (GoPost w (goF ⟨f,on,ps⟩ t)):=by
 by_cases hw:(wrongScript ⟨f,on,ps⟩).1=0
 ·by_cases hx:wrongText t=0
  ·exact go_goes f A1 n1 c1 A2 n2 c2 on ps X m d t w h1 h2 ht hw hx
  ·exact go_text f A1 n1 c1 A2 n2 c2 on ps X m d t w h1 h2 ht hw hx
 ·exact go_wrong f A1 n1 c1 A2 n2 c2 on ps X m d t w h1 h2 ht hw
def scriptF (s:ByteArray):Option Script:=
 if (readR (decodeF s)).2.1≠0 then none else if (readyF (readR (decodeF s)).1).err≠0 then none
 else if (wrongScript (readyF (readR (decodeF s)).1).forth).1≠0 then none else some (readyF (readR (decodeF s)).1).forth
def ScrPost (w:World) (T:Option Script) (e:Ending) (w':World):Prop:=
 Ext w w'/\match T with
 | none=>∃ (f:Bool) (A1:Option Addr) (n1 c1:Nat) (A2:Option Addr) (n2 c2:Nat),e=.returned (.tuple #[.agg #[.bool f,.slice A1 n1 c1,.slice A2 n2 c2],.bool false])
 | some s=>∃ v,e=.returned (.tuple #[v,.bool true])/\rScript w.heap.size w' v s
theorem script_any (s:ByteArray) (w:World) (hs:s.size<=1048576):Calls Tryz.prog 9 #[.string s] w (ScrPost w (scriptF s)):=by
 have e1:=(Ext.refl w).alloc (.cells #[.bool false,.slice none 0 0,.slice none 0 0] 26);have SA:=hid (ScV.new w false none 0 0 none 0 0 26);have HR:=hid (Read_any s (w.alloc (.cells #[.bool false,.slice none 0 0,.slice none 0 0] 26)) hs);have hs1:w.heap.size<(w.alloc (.cells #[.bool false,.slice none 0 0,.slice none 0 0] 26)).heap.size:=by simp
 obtain⟨RR,hRR⟩:∃ z,z=readR (decodeF s):=⟨_,rfl⟩
 have HSF:=hid (show scriptF s=if RR.2.1≠0 then none else if (readyF RR.1).err≠0 then none else if (wrongScript (readyF RR.1).forth).1≠0 then none else some (readyF RR.1).forth by unfold scriptF;rw[<- hRR]);have HRP:=hid (fun (w:World) e w' (h:RdPost w (readF (decodeF s)) e w')=>show ∃ A c,e=.returned (.tuple #[.slice A RR.1.length c,.agg #[.int .i64 RR.2.1,.int .i64 RR.2.2]])/\Pts (fun b=>w.heap.size<=b) w' A RR.1.length c RR.1/\Ext w w' by rw[hRR];exact h);clear hRR;obtain⟨l,er,at_⟩:=RR;dsimp only at HSF HRP;generalize hll:l.length=ll at HRP;have HLL:=hid hll;clear hll;by_cases her:er=0
 ·subst her;obtain⟨BB,hBB⟩:∃ z,z=readyF l:=⟨_,rfl⟩
  have HF:=hid (fun (A:Option Addr) (c:Nat) (W:World) (h:Pts top W A ll c l)=>show Calls Tryz.prog 23 #[.slice A ll c] W fun e w'=>(∃ v,e=.returned (.tuple #[v,.agg #[.int .i64 BB.err,.int .i64 BB.at_]])/\rScript W.heap.size w' v BB.forth)/\Ext W w' by rw[hBB];exact Forth_any A ll c l W h);have HSF2:=hid (show scriptF s=if BB.err≠0 then none else if (wrongScript BB.forth).1≠0 then none else some BB.forth by rw[HSF.out,hBB];simp);clear HSF hBB;obtain⟨⟨sf,so,sp⟩,⟨bf,bo,bp⟩,er2,at2⟩:=BB;dsimp only at HF HSF2;go_enter Tryz.func9,Tryz.ntmps9;go_upto_region 1 with fail;generalize w.alloc (.cells #[.bool false,.slice none 0 0,.slice none 0 0] 26)=w1 at *;by_cases her2:er2=0
  ·subst her2;have HSF3:=hid (show scriptF s=if (wrongScript ⟨sf,so,sp⟩).1≠0 then none else some ⟨sf,so,sp⟩ by rw[HSF2.out];simp);clear HSF2
   go_upto_region 5 with (first
    | (go_at_call 22;refine HR.out.mono ?_;intro e w2 hpost;obtain⟨A,c,rfl,hP,x2⟩:=HRP.out _ _ _ hpost;have f2:=x2.alloc (.cells #[.int .i64 0,.int .i64 at_] 34);have FA:=hid (FaV.new w2 0 at_ 34);have P2:=hid ((hP.mono (fun _ _ h=>fam_pt.mono (fun _ _=>trivial) h) (fun _ _=>trivial)).ext (fam_pt.keep top) ((Ext.refl w2).alloc (.cells #[.int .i64 0,.int .i64 at_] 34)));clear hP hpost)
    | (go_at_call 23;refine (HF.out _ _ _ P2.out).mono ?_;rintro e w3 ⟨⟨v,rfl,A1,n1,c1,A2,n2,c2,hv,r1,r2⟩,x3⟩;dsimp only at hv r1 r2;subst hv;have X3:=hid (f2.trans x3);have FA3:=hid (FA.out.ext x3);obtain⟨g0,g1,gz,gl⟩:=FA3.out;have R1:=hid r1;have R2:=hid r2;have xs:=x3.size;clear r1 r2 x3))
   have hs2w:w.heap.size<w2.heap.size:=by have:=x2.size;omega
   have X4:=hid (ext_set (ext_set X3.out (by have:=x2.size;omega) 0 (.int .i64 0)) (by have:=x2.size;omega) 1 (.int .i64 at2));have FB:=hid ((FA3.out.set0 0).set1 at2);have hn2:w2.heap.size<(w2.alloc (.cells #[.int .i64 0,.int .i64 at_] 34)).heap.size:=by simp
   have ag4:Agree (fun b=>(w2.alloc (.cells #[.int .i64 0,.int .i64 at_] 34)).heap.size<=b) w3 ((w3.setCell ⟨w2.heap.size,0,none⟩ (.int .i64 0)).setCell ⟨w2.heap.size,1,none⟩ (.int .i64 at2)):=fun b hb hl=>by
    have q1:b≠w2.heap.size:=by omega
    simp only[heap_setB q1]
   have R14:=hid (R1.out.keep (keep_span _) ag4);have R24:=hid (R2.out.keep (keep_pas _) ag4);have hz4:((w3.setCell ⟨w2.heap.size,0,none⟩ (.int .i64 0)).setCell ⟨w2.heap.size,1,none⟩ (.int .i64 at2)).heap.size=w3.heap.size:=by simp only[size_set]
   clear ag4 g0 g1 gz gl FA3 R1 R2 X3 FA P2;generalize ((w3.setCell ⟨w2.heap.size,0,none⟩ (.int .i64 0)).setCell ⟨w2.heap.size,1,none⟩ (.int .i64 at2))=w4 at *;have f5:=(Ext.refl w4).alloc (.cells #[.bool sf,.slice A1 n1 c1,.slice A2 n2 c2] 26);have SB:=hid (ScV.new w4 sf A1 n1 c1 A2 n2 c2 26);have FB5:=hid (FB.out.ext f5);have X5:=hid (X4.out.trans f5);have SA5:=hid (SA.out.ext X5.out);have R15:=hid (R14.out.ext (keep_span _) f5);have R25:=hid (R24.out.ext (keep_pas _) f5);clear FB X4 R14 R24 f5;generalize w4.alloc (.cells #[.bool sf,.slice A1 n1 c1,.slice A2 n2 c2] 26)=w5 at *;rw[hz4] at SB;obtain⟨p0,p1,p2,pz,pl⟩:=SB.out;obtain⟨q0,q1,qz,ql⟩:=FB5.out;obtain⟨j0,j1,j2,jz,jl⟩:=SA5.out;have n1':w3.heap.size≠w.heap.size:=by omega
   have n2':w2.heap.size≠w.heap.size:=by omega
   have HWr:=fun W (e:Ext w5 W)=>chainWrong_any sf A1 n1 c1 A2 n2 c2 so sp W ((R15.out.mono (fun _ _ h=>h) (fun _ _=>trivial)).ext (keep_span top) e) ((R25.out.mono (fun _ _ h=>mono_pas (fun _ _=>trivial) h) (fun _ _=>trivial)).ext (keep_pas top) e);have hfl:=fault_err;obtain⟨WQ,hWQ⟩:∃ z,z=wrongScript ⟨sf,so,sp⟩:=⟨_,rfl⟩
   rw[<- hWQ] at HSF3 HWr;clear hWQ;obtain⟨z1,z2⟩:=WQ;dsimp only at HSF3 HWr;have HW:=hid HWr;clear HWr;obtain⟨okB,hokB⟩:∃ z:Bool,z=decide (z1=0):=⟨_,rfl⟩
   have gok:(z1==0)=okB:=by rw[hokB];rfl
   have HOK:=hid hokB;clear hokB;have d0:=(Ext.refl w5).drew;go_region_with ((go_at_call 24;refine (HW.out _ d0).mono ?_;rintro e w6 ⟨rfl,x6⟩;have X6:=hid (d0.trans x6);have y0:=X6.out.cell p0;have y1:=X6.out.cell p1;have y2:=X6.out.cell p2;have yq:=X6.out.cell q0;obtain⟨m0,m1,m2,mz,ml⟩:=SA5.out.ext X6.out))
   all_goals
    go_wp2;refine bodyPost_ret (v:=.tuple #[.agg #[.bool sf,.slice A1 n1 c1,.slice A2 n2 c2],.bool okB]) (by simp[results,Tryz.results9,go_sem,m0,m1,m2,ml]) rfl ?_;refine⟨?_,?_⟩
    ·repeat (first | exact (e1.trans X5.out).trans X6.out | refine ext_set ?_ (Nat.le_refl _) _ _)
    ·rw[HSF3.out];cases okB
     ·have hz:z1≠0:=by have:=HOK.out;simpa using this
      rw[if_pos hz];exact⟨sf,A1,n1,c1,A2,n2,c2,rfl⟩
     ·have hz:z1=0:=by have:=HOK.out;simpa using this
      rw[if_neg (by simp[hz])];refine⟨_,rfl,A1,n1,c1,A2,n2,c2,rfl,?_,?_⟩
      ·refine ((R15.out.ext (keep_span _) X6.out).keep (keep_span _) (fun b hb hl=>?_)).mono (fun _ _ h=>h) (fun b hb=>by omega);have q1:b≠w.heap.size:=by omega
       simp only[heap_setB q1]
      ·refine ((R25.out.ext (keep_pas _) X6.out).keep (keep_pas _) (fun b hb hl=>?_)).mono (fun _ _ h=>mono_pas (fun b hb=>by omega) h) (fun b hb=>by omega);have q1:b≠w.heap.size:=by omega
       simp only[heap_setB q1]
  ·have HSF3:=hid (show scriptF s=none by rw[HSF2.out,if_pos her2]);have ger:(er2==0)=false:=by simpa using her2
   clear HSF2 her2
   go_upto_region 5 with (first
    | (go_at_call 22;refine HR.out.mono ?_;intro e w2 hpost;obtain⟨A,c,rfl,hP,x2⟩:=HRP.out _ _ _ hpost;have f2:=x2.alloc (.cells #[.int .i64 0,.int .i64 at_] 34);have FA:=hid (FaV.new w2 0 at_ 34);have P2:=hid ((hP.mono (fun _ _ h=>fam_pt.mono (fun _ _=>trivial) h) (fun _ _=>trivial)).ext (fam_pt.keep top) ((Ext.refl w2).alloc (.cells #[.int .i64 0,.int .i64 at_] 34)));clear hP hpost)
    | (go_at_call 23;refine (HF.out _ _ _ P2.out).mono ?_;rintro e w3 ⟨⟨v,rfl,A1,n1,c1,A2,n2,c2,hv,r1,r2⟩,x3⟩;dsimp only at hv r1 r2;subst hv;have X3:=hid (f2.trans x3);have FA3:=hid (FA.out.ext x3);obtain⟨g0,g1,gz,gl⟩:=FA3.out;have R1:=hid r1;have R2:=hid r2;have xs:=x3.size;clear r1 r2 x3))
   have hs2w:w.heap.size<w2.heap.size:=by have:=x2.size;omega
   have X4:=hid (ext_set (ext_set X3.out (by have:=x2.size;omega) 0 (.int .i64 er2)) (by have:=x2.size;omega) 1 (.int .i64 at2));have FB:=hid ((FA3.out.set0 er2).set1 at2);have hn2:w2.heap.size<(w2.alloc (.cells #[.int .i64 0,.int .i64 at_] 34)).heap.size:=by simp
   have ag4:Agree (fun b=>(w2.alloc (.cells #[.int .i64 0,.int .i64 at_] 34)).heap.size<=b) w3 ((w3.setCell ⟨w2.heap.size,0,none⟩ (.int .i64 er2)).setCell ⟨w2.heap.size,1,none⟩ (.int .i64 at2)):=fun b hb hl=>by
    have q1:b≠w2.heap.size:=by omega
    simp only[heap_setB q1]
   have R14:=hid (R1.out.keep (keep_span _) ag4);have R24:=hid (R2.out.keep (keep_pas _) ag4);have hz4:((w3.setCell ⟨w2.heap.size,0,none⟩ (.int .i64 er2)).setCell ⟨w2.heap.size,1,none⟩ (.int .i64 at2)).heap.size=w3.heap.size:=by simp only[size_set]
   clear ag4 g0 g1 gz gl FA3 R1 R2 X3 FA P2;generalize ((w3.setCell ⟨w2.heap.size,0,none⟩ (.int .i64 er2)).setCell ⟨w2.heap.size,1,none⟩ (.int .i64 at2))=w4 at *;have f5:=(Ext.refl w4).alloc (.cells #[.bool sf,.slice A1 n1 c1,.slice A2 n2 c2] 26);have SB:=hid (ScV.new w4 sf A1 n1 c1 A2 n2 c2 26);have FB5:=hid (FB.out.ext f5);have X5:=hid (X4.out.trans f5);have SA5:=hid (SA.out.ext X5.out);have R15:=hid (R14.out.ext (keep_span _) f5);have R25:=hid (R24.out.ext (keep_pas _) f5);clear FB X4 R14 R24 f5;generalize w4.alloc (.cells #[.bool sf,.slice A1 n1 c1,.slice A2 n2 c2] 26)=w5 at *;rw[hz4] at SB;obtain⟨p0,p1,p2,pz,pl⟩:=SB.out;obtain⟨q0,q1,qz,ql⟩:=FB5.out;obtain⟨j0,j1,j2,jz,jl⟩:=SA5.out;have n1':w3.heap.size≠w.heap.size:=by omega
   have n2':w2.heap.size≠w.heap.size:=by omega
   go_region;go_wp2;refine bodyPost_ret (v:=.tuple #[.agg #[.bool sf,.slice A1 n1 c1,.slice A2 n2 c2],.bool false]) (by simp[results,Tryz.results9,go_sem,j0,j1,j2,jl]) rfl ?_;refine⟨Ext.drew ?_,?_⟩
   ·repeat (first | exact e1.trans X5.out | refine ext_set ?_ (Nat.le_refl _) _ _)
   ·rw[HSF3.out];exact⟨sf,A1,n1,c1,A2,n2,c2,rfl⟩
 ·have HSF3:=hid (show scriptF s=none by rw[HSF.out,if_pos her]);have ger:(er != 0)=true:=by simpa using her
  clear HSF her;go_enter Tryz.func9,Tryz.ntmps9;go_upto_region 1 with fail;generalize w.alloc (.cells #[.bool false,.slice none 0 0,.slice none 0 0] 26)=w1 at *;go_wp2_with (go_at_call 22;refine HR.out.mono ?_;intro e w2 hpost;obtain⟨A,c,rfl,hP,x2⟩:=HRP.out _ _ _ hpost;have f2:=x2.alloc (.cells #[.int .i64 er,.int .i64 at_] 34);obtain⟨j0,j1,j2,jz,jl⟩:=SA.out.ext f2;clear hP hpost);refine bodyPost_ret (v:=.tuple #[.agg #[.bool false,.slice none 0 0,.slice none 0 0],.bool false]) (by simp[results,Tryz.results9,go_sem,j0,j1,j2,jl]) rfl ?_;refine⟨?_,?_⟩
  ·repeat (first | exact e1.trans f2 | refine ext_set ?_ (Nat.le_refl _) _ _)
  ·rw[HSF3.out];exact⟨false,none,0,0,none,0,0,rfl⟩
def aliveB:ByteArray:=⟨#[36,118,32,61,32,91,97,45,99,93,59,10,36,118,32,125,32,120,32,62,32,121,32,59,10,58,58,32,117,112,112,101,114,32,59,10]⟩
def aliveT:ByteArray:=⟨#[97,120,98,195,169]⟩
theorem alive1:(readR (decodeF aliveB)).2=(0,0):=by decide +kernel
theorem alive2:(readyF (readR (decodeF aliveB)).1).err=0:=by decide +kernel
theorem alive3:goF (readyF (readR (decodeF aliveB)).1).forth (decodeF aliveT)=([89,88,66,201],0,0):=by decide +kernel
theorem alive4:runesBytes [89,88,66,201]=⟨#[89,88,66,195,137]⟩:=by decide +kernel
theorem alive_any (w:World):Calls Tryz.prog 8 #[] w fun e w'=>e=.returned (.bool true)/\Ext w w':=by
 have HR:=hid (fun W=>Read_any aliveB W (by decide));obtain⟨RR,hRR⟩:∃ z,z=readR (decodeF aliveB):=⟨_,rfl⟩
 have h1:=alive1;have h2:=alive2;have h3:=alive3;rw[<- hRR] at h1 h2 h3;have HRP:=hid (fun (w:World) e w' (h:RdPost w (readF (decodeF aliveB)) e w')=>show ∃ A c,e=.returned (.tuple #[.slice A RR.1.length c,.agg #[.int .i64 RR.2.1,.int .i64 RR.2.2]])/\Pts (fun b=>w.heap.size<=b) w' A RR.1.length c RR.1/\Ext w w' by rw[hRR];exact h);clear hRR;obtain⟨l,er,at_⟩:=RR;dsimp only at HRP h1 h2 h3;cases h1;generalize hll:l.length=ll at HRP;have HLL:=hid hll;clear hll;obtain⟨BB,hBB⟩:∃ z,z=readyF l:=⟨_,rfl⟩
 have HF:=hid (fun (A:Option Addr) (c:Nat) (W:World) (h:Pts top W A ll c l)=>show Calls Tryz.prog 23 #[.slice A ll c] W fun e w'=>(∃ v,e=.returned (.tuple #[v,.agg #[.int .i64 BB.err,.int .i64 BB.at_]])/\rScript W.heap.size w' v BB.forth)/\Ext W w' by rw[hBB];exact Forth_any A ll c l W h);rw[<- hBB] at h2 h3;clear hBB;obtain⟨⟨sf,so,sp⟩,⟨bf,bo,bp⟩,er2,at2⟩:=BB;dsimp only at HF h2 h3;subst h2;have HG:=hid h3;have HD:=hid (fun W=>Decode_any aliveT W (by decide));clear h3;unfold aliveB at HR;unfold aliveT at HD;go_enter Tryz.func8,Tryz.ntmps8
 go_upto_region 3 with (first
  | (go_at_call 22;refine (HR.out _).mono ?_;intro e w2 hpost;obtain⟨A,c,rfl,hP,x2⟩:=HRP.out _ _ _ hpost;have f2:=x2.alloc (.cells #[.int .i64 0,.int .i64 0] 34);have FA:=hid (FaV.new w2 0 0 34);have P2:=hid ((hP.mono (fun _ _ h=>fam_pt.mono (fun _ _=>trivial) h) (fun _ _=>trivial)).ext (fam_pt.keep top) ((Ext.refl w2).alloc (.cells #[.int .i64 0,.int .i64 0] 34)));clear hP hpost)
  | (go_at_call 23;refine (HF.out _ _ _ P2.out).mono ?_;rintro e w3 ⟨⟨v,rfl,A1,n1,c1,A2,n2,c2,hv,r1,r2⟩,x3⟩;dsimp only at hv r1 r2;subst hv;have X3:=hid (f2.trans x3);have FA3:=hid (FA.out.ext x3);have R1:=hid r1;have R2:=hid r2;clear r1 r2 x3))
 have f4:=(Ext.refl w3).alloc (.cells #[.bool sf,.slice A1 n1 c1,.slice A2 n2 c2] 26);have SB:=hid ((ScV.new w3 sf A1 n1 c1 A2 n2 c2 26).ext ((Ext.refl _).alloc (.cells #[.int .i64 0,.int .i64 at2] 34)));have FB:=hid (FaV.new (w3.alloc (.cells #[.bool sf,.slice A1 n1 c1,.slice A2 n2 c2] 26)) 0 at2 34);simp only[World.size_alloc] at FB;have f5:=f4.alloc (.cells #[.int .i64 0,.int .i64 at2] 34);have FA5:=hid (FA3.out.ext f5);have R15:=hid ((R1.out.ext (keep_span _) f5).mono (fun _ _ h=>h) (fun _ _=>trivial));have R25:=hid ((R2.out.ext (keep_pas _) f5).mono (fun _ _ h=>mono_pas (fun _ _=>trivial) h) (fun _ _=>trivial));have X5:=hid (X3.out.trans f5);clear f4 f5 R1 R2 FA3 X3 FA P2;generalize (w3.alloc (.cells #[.bool sf,.slice A1 n1 c1,.slice A2 n2 c2] 26)).alloc (.cells #[.int .i64 0,.int .i64 at2] 34)=w5 at *;obtain⟨p0,p1,p2,pz,pl⟩:=SB.out;have d0:=(Ext.refl w5).drew;have d1:=((Ext.refl w5).alloc (.cells #[.int .i64 0,.int .i64 0] 34)).drew;have HGo:=hid (fun (X:Option Addr) (m d:Nat) (W:World) (e:Ext w5 W) (ht:Runes W X m d (decodeF aliveT))=>show Calls Tryz.prog 10 #[.agg #[.bool sf,.slice A1 n1 c1,.slice A2 n2 c2],.slice X m d] W (GoPost W ([89,88,66,201],0,0)) by rw[<- HG.out];exact Go_any sf A1 n1 c1 A2 n2 c2 so sp X m d _ W (R15.out.ext (keep_span top) e) (R25.out.ext (keep_pas top) e) ht);unfold aliveT at HGo;go_cut [5,6] from 16 to 21 (fun v5 v6 wx=>∃ A c fb,v5=.slice A 4 c/\v6=.pointer (some ⟨fb,0,none⟩)/\wx.cell? ⟨fb,0,none⟩=some (.int .i64 0)/\Hid (Runes wx A 4 c [89,88,66,201])/\Ext w5 wx)
 case first=>
  have v50:=cell_new w5 #[.int .i64 0,.int .i64 0] 34 0 _ rfl;have v51:=cell_new w5 #[.int .i64 0,.int .i64 0] 34 1 _ rfl;have v5z:=Wr.new w5 #[.int .i64 0,.int .i64 0] 34
  go_region_held3 (fun w'=>w'.cell? ⟨w3.heap.size,0,none⟩=some (.bool sf)/\w'.cell? ⟨w3.heap.size,1,none⟩=some (.slice A1 n1 c1)/\w'.cell? ⟨w3.heap.size,2,none⟩=some (.slice A2 n2 c2))
   (first | exact⟨p0,p1,p2⟩ | exact⟨y0,y1,y2⟩ | exact⟨t0,t1,t2⟩ | (rw[setCell_self b0,setCell_self b1];exact⟨t0,t1,t2⟩) | (go_keep;done))
   (first
   | (go_at_call 11;((with_reducible refine (HD.out w5.drew).mono ?_);rintro e w6 ⟨v,rfl,ov,x6⟩;obtain⟨AT,cT,hv,sT⟩:=ov.top;generalize (decodeF ⟨#[97,120,98,195,169]⟩).length=NT at hv sT;subst hv;have X6:=hid (d0.trans x6);have ST:=hid sT;have y0:=X6.out.cell p0;have y1:=X6.out.cell p1;have y2:=X6.out.cell p2;clear ov sT x6))
   | (go_at_call 11;((with_reducible refine (HD.out (w5.alloc (.cells #[.int .i64 0,.int .i64 0] 34)).drew).mono ?_);rintro e w6 ⟨v,rfl,ov,x6⟩;obtain⟨AT,cT,hv,sT⟩:=ov.top;generalize (decodeF ⟨#[97,120,98,195,169]⟩).length=NT at hv sT;subst hv;have X6:=hid (d1.trans x6);have ST:=hid sT;have y0:=X6.out.cell p0;have y1:=X6.out.cell p1;have y2:=X6.out.cell p2;have v60:=x6.cell (show (w5.alloc (.cells #[.int .i64 0,.int .i64 0] 34)).drew.cell? ⟨w5.heap.size,0,none⟩=some (.int .i64 0) from v50);have v61:=x6.cell (show (w5.alloc (.cells #[.int .i64 0,.int .i64 0] 34)).drew.cell? ⟨w5.heap.size,1,none⟩=some (.int .i64 0) from v51);have v6z:=(v5z.ext (Ext.refl _).drew).ext x6;clear ov sT x6))
   | (go_at_call 10;((with_reducible refine (HGo.out _ _ _ w6 X6.out ST.out).mono ?_);rintro e w7 ⟨x7,he⟩;rw[if_neg (by simp)] at he;obtain⟨A7,n7,c7,rfl,h7⟩:=he;have hn7:n7=4:=h7.len.symm;subst hn7;have X7:=hid ((X6.out).trans x7);have S7:=hid (h7.mono (fun _ _ h=>h) (fun _ _=>trivial):Runes w7 A7 4 c7 [89,88,66,201]);(try have b0:=x7.cell v60);(try have b1:=x7.cell v61);(try have bz:=(v6z.ext x7).2);(try have bl:=(v6z.ext x7).1);have t0:=X7.out.cell p0;have t1:=X7.out.cell p1;have t2:=X7.out.cell p2;clear h7))
   | (go_at_call 10;((with_reducible refine (HGo.out _ _ _ (w6.alloc (.cells #[.int .i64 0,.int .i64 0] 34)) (X6.out.alloc _) (ST.out.ext (keep_rune top) ((Ext.refl w6).alloc _))).mono ?_);rintro e w7 ⟨x7,he⟩;rw[if_neg (by simp)] at he;obtain⟨A7,n7,c7,rfl,h7⟩:=he;have hn7:n7=4:=h7.len.symm;subst hn7;have X7:=hid (((X6.out.alloc _)).trans x7);have S7:=hid (h7.mono (fun _ _ h=>h) (fun _ _=>trivial):Runes w7 A7 4 c7 [89,88,66,201]);have b0:w7.cell? ⟨w6.heap.size,0,none⟩=some (.int .i64 0):=x7.cell (by simp);have b1:w7.cell? ⟨w6.heap.size,1,none⟩=some (.int .i64 0):=x7.cell (by simp);have bz:=((Wr.new w6 #[.int .i64 0,.int .i64 0] 34).ext x7).2;have bl:=((Wr.new w6 #[.int .i64 0,.int .i64 0] 34).ext x7).1;have t0:=X7.out.cell p0;have t1:=X7.out.cell p1;have t2:=X7.out.cell p2;clear h7)))
  ·go_wp2_with fail;go_meet;case rel=>exact⟨A7,c7,w7.heap.size,rfl,rfl,by simp,hid (Runes.ext S7.out ((Ext.refl w7).alloc _)),X7.out.alloc _⟩
  ·go_wp2_with fail;go_meet
   case rel=>
    rw[setCell_self b0,setCell_self b1];exact⟨A7,c7,w6.heap.size,rfl,rfl,b0,S7,X7.out⟩
  ·go_wp2_with fail;go_meet
   case rel=>
    rw[setCell_self b0,setCell_self b1];exact⟨A7,c7,w5.heap.size,rfl,rfl,b0,S7,X7.out⟩
 case rest=>
  obtain⟨A7,c7,fb,rfl,rfl,z0,HS7,X7⟩:=hcut;have a0:=X7.cell FA5.out.h0;have b0:=X7.cell FB.out.h0;have hcv:=run_str HS7.out;rw[alive4] at hcv;go_wp2;go_ret;exact⟨by simp,X5.out.trans X7⟩
def Shape (T:List Int×Int×Nat):Prop:=(T.2.1≠0->T.1=[])/\(T.2.1=0->T.2.2=0)
theorem goS_shape (s:Script):∀ (r pc out:List Int),Shape (goS s r pc out)
 | [],pc,out=>by
  unfold goS
  cases h:flushF s pc out with
  | inl e=>
   refine⟨fun _=>rfl,fun h0=>?_⟩;unfold flushF at h;split at h
   ·cases h
   ·split at h
    ·rename_i h2;cases h;exact absurd h0 h2
    ·cases h
  | inr o=>
   show Shape (lastF s o);unfold lastF;split
   ·exact⟨fun _=>rfl,fun h=>by simp at h⟩
   ·exact⟨fun h=>absurd rfl h,fun _=>rfl⟩
 | x::r,pc,out=>by
  unfold goS;split
  ·exact goS_shape s r _ _
  ·cases h:flushF s pc out with
   | inl e=>
    refine⟨fun _=>rfl,fun h0=>?_⟩;unfold flushF at h;split at h
    ·cases h
    ·split at h
     ·rename_i h2;cases h;exact absurd h0 h2
     ·cases h
   | inr o=>exact goS_shape s r _ _
theorem goF_shape (s:Script) (t:List Int):Shape (goF s t):=by
 unfold goF;split
 ·rename_i h;exact⟨fun _=>rfl,fun h0=>absurd h0 h⟩
 ·split
  ·rename_i h;exact⟨fun _=>rfl,fun h0=>absurd h0 h⟩
  ·exact goS_shape s _ _ _
theorem Go_one (f:Bool) (A1:Option Addr) (n1 c1:Nat) (A2:Option Addr) (n2 c2:Nat) (on:List Sp) (ps:List Pas) (X:Option Addr) (m d:Nat) (t:List Int) (w:World) (h1:Spans w A1 n1 c1 on) (h2:Pss top w A2 n2 c2 ps) (ht:Runes w X m d t) :
  Calls Tryz.prog 10 #[.agg #[.bool f,.slice A1 n1 c1,.slice A2 n2 c2],.slice X m d] w fun e w'=>(∃ A n c,e=.returned (.tuple #[.slice A n c,.agg #[.int .i64 (goF ⟨f,on,ps⟩ t).2.1,.int .i64 (goF ⟨f,on,ps⟩ t).2.2]])/\SlR rRune 1 (fun b=>w.heap.size<=b) w' A n c (goF ⟨f,on,ps⟩ t).1)/\Ext w w':=by
 refine (Go_any f A1 n1 c1 A2 n2 c2 on ps X m d t w h1 h2 ht).mono ?_;rintro e w' ⟨x,he⟩;obtain⟨s1,s2⟩:=goF_shape ⟨f,on,ps⟩ t;refine⟨?_,x⟩;by_cases h0:(goF ⟨f,on,ps⟩ t).2.1≠0
 ·rw[if_pos h0] at he;rw[s1 h0];exact⟨none,0,0,he,SlR.nil _ _ _ _ _ _ (by unfold maxLen;omega)⟩
 ·rw[if_neg h0] at he;obtain⟨A,n,c,e1,hs⟩:=he;have h00:=Decidable.not_not.1 h0;rw[h00,s2 h00];exact⟨A,n,c,e1,hs⟩
end Go.Proofs.YthomjcjnalfipaaGreatDoor
namespace Go.Proofs.YthomjcjnalfipaaGreatDoor
open Go.ChangeShapes Go.WideShapes Go.ChangeAt Go.RowKit
theorem topOwn:ownKnob Tryz.prog.godebug=none:=by kernel_rfl
noncomputable def topWorld (os:Os):World:=
 let N:=(World.settled Tryz.prog os).heap.size
 let w0:=World.holding Tryz.prog os ⟨#[.cells #[.string ⟨#[118,97,108,117,101,32,111,117,116,32,111,102,32,114,97,110,103,101]⟩] 269,.cells #[.string ⟨#[105,110,118,97,108,105,100,32,115,121,110,116,97,120]⟩] 269],#[],[]⟩
 let put (h:Array Obj) (g:Nat) (cs:Array Value):Array Obj:=h.modify g fun
  | .cells _ t frozen=>.cells cs t frozen
  | o=>o
 let h1:=put w0.heap 1 #[.iface 267 (.pointer (some ⟨N+1,0,none⟩))]
 let h2:=put h1 2 #[.iface 267 (.pointer (some ⟨N,0,none⟩))]
 let h3:=put h2 3 ((List.range 20).map fun i=>Value.int .u64 (10 ^ i)).toArray
 let h4:=put h3 4 (([0,1,28,2,29,14,24,3,30,22,20,15,25,17,4,8,31,27,13,23,21,19,16,7,26,12,18,6,11,5,10,9]:List Int).map fun z=>Value.int .u8 z).toArray
 let h5:=put h4 5 (([0,1,56,2,57,49,28,3,61,58,42,50,38,29,17,4,62,47,59,36,45,43,51,22,53,39,33,30,24,18,12,5,63,55,48,27,60,41,37,16,46,35,44,21,52,32,23,11,54,26,40,15,34,20,31,10,25,14,19,9,13,8,7,6]:List Int).map fun z=>Value.int .u8 z).toArray
 { w0 with heap:=h5 }
theorem topLaid (os:Os) (args:Array Value):laidMet Tryz.prog Rows.topAnyUptoRow.laid ((topWorld os).forCall (fun _ _=>0) ⟨#[],args,[]⟩).memory:=
 laidMet_of_run' 8 (by kernel_rfl) (by kernel_rfl)
theorem text_bulk {H:Type} (s:List UInt8) {l:List (DataW H)} (hk:Rows.uptoSmall H l=true) (hd: .lit (.string s)∈l):s.length<=1048576:=by
 have hs:Rows.uptoBulkAll l<=1048576:=of_decide_eq_true hk
 have hb:Rows.uptoBulk (.lit (.string s):DataW H)<=Rows.uptoBulkAll l:=by
  clear hs hk
  induction l with
  | nil=>cases hd
  | cons x r ih=>
   simp only[Rows.uptoBulkAll];rcases List.mem_cons.1 hd with rfl | h
   ·omega
   ·have:=ih h;omega
 simp only[Rows.uptoBulk] at hb;omega
theorem bytes_len (s:ByteArray):s.data.toList.length=s.size:=by rw[Array.length_toList];rfl
end Go.Proofs.YthomjcjnalfipaaGreatDoor
