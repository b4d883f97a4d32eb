/- A part of the proof of rowTopFile.proved. -/
import Derived.Test.YthomjcjnalfipaaGreatDoorYB30
import Derived.Test.YthomjcjnalfipaaGreatDoorYF01
set_option linter.all false
set_option maxRecDepth 100000
set_option maxHeartbeats 4000000
open Go.Lib (hid)
namespace Go.Proofs.YthomjcjnalfipaaGreatDoor
open Go.RowKit
theorem Run_rules (A:Option Addr) (n c:Nat) (l:List Rule) (X:Option Addr) (m d:Nat) (t:List Int) (w:World) (h:Rules w A n c l) (ht:Runes w X m d t) (hr:(wrongRules l).1≠0) :
  Calls Tryz.prog 18 #[.slice A n c,.slice X m d] w fun e w'=>RunR l t w' e/\Ext w w':=by
 have e1:Ext w ((w.alloc (.cells #[.slice none 0 0,.int .i64 0,.int .i64 0] 49)).alloc (.cells #[.int .i64 0,.int .i64 0] 34)):=((Ext.refl w).alloc _).alloc _;have k0:((w.alloc (.cells #[.slice none 0 0,.int .i64 0,.int .i64 0] 49)).alloc (.cells #[.int .i64 0,.int .i64 0] 34)).cell? ⟨w.heap.size,0,none⟩=some (.slice none 0 0):=by simp
 have k1:((w.alloc (.cells #[.slice none 0 0,.int .i64 0,.int .i64 0] 49)).alloc (.cells #[.int .i64 0,.int .i64 0] 34)).cell? ⟨w.heap.size,1,none⟩=some (.int .i64 0):=by simp
 have k2:((w.alloc (.cells #[.slice none 0 0,.int .i64 0,.int .i64 0] 49)).alloc (.cells #[.int .i64 0,.int .i64 0] 34)).cell? ⟨w.heap.size,2,none⟩=some (.int .i64 0):=by simp
 have k3:((w.alloc (.cells #[.slice none 0 0,.int .i64 0,.int .i64 0] 49)).alloc (.cells #[.int .i64 0,.int .i64 0] 34)).cell? ⟨w.heap.size+1,0,none⟩=some (.int .i64 0):=by simp
 have k4:((w.alloc (.cells #[.slice none 0 0,.int .i64 0,.int .i64 0] 49)).alloc (.cells #[.int .i64 0,.int .i64 0] 34)).cell? ⟨w.heap.size+1,1,none⟩=some (.int .i64 0):=by simp
 have wa:=(Wr.new w #[.slice none 0 0,.int .i64 0,.int .i64 0] 49).ext ((Ext.refl _).alloc (.cells #[.int .i64 0,.int .i64 0] 34));have wb:=Wr.new (w.alloc (.cells #[.slice none 0 0,.int .i64 0,.int .i64 0] 49)) #[.int .i64 0,.int .i64 0] 34;rw[World.size_alloc] at wb;have HC:=hid (Wrongs_any A n c l _ (h.ext e1));have HT:=hid (fun W (e:Ext w W)=>Text_any X m d t W (ht.ext e));have HF:=hid (fun W (e:Ext w W)=>First_any A n c l);have HCl:=hid (fun W (e:Ext w W)=>Clone_rune one_rune (keep_rune bot) X m d t W (ht.ext e));have htl:=hid ht.len;generalize hW1:(w.alloc (.cells #[.slice none 0 0,.int .i64 0,.int .i64 0] 49)).alloc (.cells #[.int .i64 0,.int .i64 0] 34)=w1 at *;have HW1:=hid hW1;clear hW1;have hr':((wrongRules l).1 != 0)=true:=by simpa using hr
 have HK:=checkRun_rules (t:=t) hr;have HO:Hid (runAll l t=⟨[],0,0,(wrongRules l).1⟩):=hid (by rw[runAll_bad (by rw[HK];exact hr),HK]);have HRF:Hid (runF l t=wrongRules l):=hid (by rw[runF_bad (by rw[HK];exact hr),HK]);clear hr HK;generalize hp1:(wrongRules l).1=p1 at *;generalize hp2:(wrongRules l).2=p2 at *;have HP:Hid (wrongRules l=(p1,p2)):=hid (by rw[<- hp1,<- hp2]);clear hp1 hp2;go_enter Tryz.func18,Tryz.ntmps18;go_wp2_with fail;rw[HW1.out];go_wp2_with (go_at_call 28;refine HC.out.mono ?_;rintro e w2 ⟨rfl,hx2⟩;have x12:=hx2.alloc (.cells #[.int .i64 p1,.int .i64 p2] 34);have v0:=x12.cell k0;have v1:=x12.cell k1;have v2:=x12.cell k2;have v3:=x12.cell k3;have v4:=x12.cell k4;have va:=(wa.ext x12).2;have vb:=(wb.ext x12).2;have n1:=Nat.ne_of_lt (wa.lt hx2);have n2:=Nat.ne_of_lt (wb.lt hx2);have n3:=n1.symm;have n4:=n2.symm);go_region;go_wp2;refine bodyPost_ret (v:=.tuple #[.agg #[.slice none 0 0,.int .i64 0,.int .i64 0],.agg #[.int .i64 p1,.int .i64 p2]]) (by simp[results,Tryz.results18,go_sem,v0,v1,v2,v3,v4]) rfl ?_;exact⟨RunR.bad HO.out (HRF.out.trans HP.out) rfl,by refine Ext.drew ?_;repeat (first | exact e1.trans x12 | refine ext_set ?_ (by omega) _ _)⟩
theorem Run_text (A:Option Addr) (n c:Nat) (l:List Rule) (X:Option Addr) (m d:Nat) (t:List Int) (w:World) (h:Rules w A n c l) (ht:Runes w X m d t) (hr:(wrongRules l).1=0) (hx:wrongText t≠0) :
  Calls Tryz.prog 18 #[.slice A n c,.slice X m d] w fun e w'=>RunR l t w' e/\Ext w w':=by
 have e1:Ext w ((w.alloc (.cells #[.slice none 0 0,.int .i64 0,.int .i64 0] 49)).alloc (.cells #[.int .i64 0,.int .i64 0] 34)):=((Ext.refl w).alloc _).alloc _;have k0:((w.alloc (.cells #[.slice none 0 0,.int .i64 0,.int .i64 0] 49)).alloc (.cells #[.int .i64 0,.int .i64 0] 34)).cell? ⟨w.heap.size,0,none⟩=some (.slice none 0 0):=by simp
 have k1:((w.alloc (.cells #[.slice none 0 0,.int .i64 0,.int .i64 0] 49)).alloc (.cells #[.int .i64 0,.int .i64 0] 34)).cell? ⟨w.heap.size,1,none⟩=some (.int .i64 0):=by simp
 have k2:((w.alloc (.cells #[.slice none 0 0,.int .i64 0,.int .i64 0] 49)).alloc (.cells #[.int .i64 0,.int .i64 0] 34)).cell? ⟨w.heap.size,2,none⟩=some (.int .i64 0):=by simp
 have k3:((w.alloc (.cells #[.slice none 0 0,.int .i64 0,.int .i64 0] 49)).alloc (.cells #[.int .i64 0,.int .i64 0] 34)).cell? ⟨w.heap.size+1,0,none⟩=some (.int .i64 0):=by simp
 have k4:((w.alloc (.cells #[.slice none 0 0,.int .i64 0,.int .i64 0] 49)).alloc (.cells #[.int .i64 0,.int .i64 0] 34)).cell? ⟨w.heap.size+1,1,none⟩=some (.int .i64 0):=by simp
 have wa:=(Wr.new w #[.slice none 0 0,.int .i64 0,.int .i64 0] 49).ext ((Ext.refl _).alloc (.cells #[.int .i64 0,.int .i64 0] 34));have wb:=Wr.new (w.alloc (.cells #[.slice none 0 0,.int .i64 0,.int .i64 0] 49)) #[.int .i64 0,.int .i64 0] 34;rw[World.size_alloc] at wb;have HC:=hid (Wrongs_any A n c l _ (h.ext e1));have HT:=hid (fun W (e:Ext w W)=>Text_any X m d t W (ht.ext e));have HF:=hid (fun W (e:Ext w W)=>First_any A n c l);have HCl:=hid (fun W (e:Ext w W)=>Clone_rune one_rune (keep_rune bot) X m d t W (ht.ext e));have htl:=hid ht.len;generalize hW1:(w.alloc (.cells #[.slice none 0 0,.int .i64 0,.int .i64 0] 49)).alloc (.cells #[.int .i64 0,.int .i64 0] 34)=w1 at *;have HW1:=hid hW1;clear hW1;obtain⟨hr0,_,hok⟩:=wrongRules_zero hr;have HR:=hid hr0;have HK:Hid (checkRun l t=(wrongText t,0)):=hid (checkRun_text hr);have OK:=hid hok;clear hr hr0 hok;have hx':(wrongText t != 0)=true:=by simpa using hx
 have HO:Hid (runAll l t=⟨[],0,0,wrongText t⟩):=hid (by rw[runAll_bad (by rw[HK.out];exact hx),HK.out]);have HRF:Hid (runF l t=(wrongText t,0)):=hid (by rw[runF_bad (by rw[HK.out];exact hx),HK.out]);clear hx;go_enter Tryz.func18,Tryz.ntmps18;go_wp2_with fail;rw[HW1.out]
 go_wp2_with (first
  | (go_at_call 28;refine HC.out.mono ?_;rintro e w2 ⟨rfl,hx2⟩;rw[HR.out])
  | (go_at_call 25;refine (HT.out _ ((e1.trans hx2).alloc _)).mono ?_;rintro e w3 ⟨rfl,hx3⟩;have x13:=(hx2.alloc _).trans hx3;have v0:=x13.cell k0;have v1:=x13.cell k1;have v2:=x13.cell k2;have v3:=x13.cell k3;have v4:=x13.cell k4;have va:=(wa.ext x13).2;have vb:=(wb.ext x13).2))
 refine bodyPost_ret (v:=.tuple #[.agg #[.slice none 0 0,.int .i64 0,.int .i64 0],.agg #[.int .i64 (wrongText t),.int .i64 0]]) (by simp[results,Tryz.results18,go_sem,v0,v1,v2,v3,v4]) rfl ?_;exact⟨RunR.bad HO.out HRF.out rfl,by repeat (first | exact e1.trans x13 | refine ext_set ?_ (by omega) _ _)⟩
theorem Run_plays (A:Option Addr) (n c:Nat) (l:List Rule) (X:Option Addr) (m d:Nat) (t:List Int) (w:World) (h:Rules w A n c l) (ht:Runes w X m d t) (hr:(wrongRules l).1=0) (hx:wrongText t=0) :
  Calls Tryz.prog 18 #[.slice A n c,.slice X m d] w fun e w'=>RunR l t w' e/\Ext w w':=by
 have e1:Ext w ((w.alloc (.cells #[.slice none 0 0,.int .i64 0,.int .i64 0] 49)).alloc (.cells #[.int .i64 0,.int .i64 0] 34)):=((Ext.refl w).alloc _).alloc _;have k0:((w.alloc (.cells #[.slice none 0 0,.int .i64 0,.int .i64 0] 49)).alloc (.cells #[.int .i64 0,.int .i64 0] 34)).cell? ⟨w.heap.size,0,none⟩=some (.slice none 0 0):=by simp
 have k1:((w.alloc (.cells #[.slice none 0 0,.int .i64 0,.int .i64 0] 49)).alloc (.cells #[.int .i64 0,.int .i64 0] 34)).cell? ⟨w.heap.size,1,none⟩=some (.int .i64 0):=by simp
 have k2:((w.alloc (.cells #[.slice none 0 0,.int .i64 0,.int .i64 0] 49)).alloc (.cells #[.int .i64 0,.int .i64 0] 34)).cell? ⟨w.heap.size,2,none⟩=some (.int .i64 0):=by simp
 have k3:((w.alloc (.cells #[.slice none 0 0,.int .i64 0,.int .i64 0] 49)).alloc (.cells #[.int .i64 0,.int .i64 0] 34)).cell? ⟨w.heap.size+1,0,none⟩=some (.int .i64 0):=by simp
 have k4:((w.alloc (.cells #[.slice none 0 0,.int .i64 0,.int .i64 0] 49)).alloc (.cells #[.int .i64 0,.int .i64 0] 34)).cell? ⟨w.heap.size+1,1,none⟩=some (.int .i64 0):=by simp
 have wa:=(Wr.new w #[.slice none 0 0,.int .i64 0,.int .i64 0] 49).ext ((Ext.refl _).alloc (.cells #[.int .i64 0,.int .i64 0] 34));have wb:=Wr.new (w.alloc (.cells #[.slice none 0 0,.int .i64 0,.int .i64 0] 49)) #[.int .i64 0,.int .i64 0] 34;rw[World.size_alloc] at wb;have HC:=hid (Wrongs_any A n c l _ (h.ext e1));have HT:=hid (fun W (e:Ext w W)=>Text_any X m d t W (ht.ext e));have HF:=hid (fun W (e:Ext w W)=>First_any A n c l);have HCl:=hid (fun W (e:Ext w W)=>Clone_rune one_rune (keep_rune bot) X m d t W (ht.ext e));have htl:=hid ht.len;generalize hW1:(w.alloc (.cells #[.slice none 0 0,.int .i64 0,.int .i64 0] 49)).alloc (.cells #[.int .i64 0,.int .i64 0] 34)=w1 at *;have HW1:=hid hW1;clear hW1;obtain⟨hr0,_,hok⟩:=wrongRules_zero hr;have HR:=hid hr0;have HK:Hid (checkRun l t=(wrongText t,0)):=hid (checkRun_text hr);have OK:=hid hok;clear hr hr0 hok;have HX:=hid hx;have hm:=(text_of hx).1;rw[htl.out] at hm;have HCK:Hid ((checkRun l t).1=0):=hid (by rw[HK.out];exact hx);have HO:=hid (runAll_ok HCK.out);have HRF:=hid (runF_ok HCK.out);clear hx;obtain⟨L,hL⟩:∃ L:Nat,L=8*m+40:=⟨_,rfl⟩
 have hL2:L<=40000:=by omega
 have HLim:=hid hL;clear hL;have HRT:Hid (runText l t=play l L ⟨t,0,0,0⟩):=hid (by unfold runText;rw[htl.out,HLim.out]);have hn0:w.heap.size+2<=w1.heap.size:=wb.1;go_enter Tryz.func18,Tryz.ntmps18;go_wp2_with fail;rw[HW1.out]
 go_wp2_with (first
  | (go_at_call 28;refine HC.out.mono ?_;rintro e w2 ⟨rfl,hx2⟩;rw[HR.out])
  | (go_at_call 25;refine (HT.out _ ((e1.trans hx2).alloc _)).mono ?_;rintro e w3 ⟨rfl,hx3⟩;rw[HX.out];have x13:=(hx2.alloc _).trans hx3)
  | (go_at_call 27;refine (HCl.out _ (e1.trans x13) (by omega) (fun _ _ h=>h)).mono ?_;rintro e w4 ⟨v,rfl,ov,hx4⟩;obtain⟨AT,dT,rfl,hsT⟩:=ov.sl;have x14:=x13.trans hx4;have e14:=e1.trans x14)
  | (go_at_call 33;refine (Limit_any m _ hm).mono ?_;rintro e w' ⟨rfl,rfl⟩;rw[<- HLim.out]))
 have P0:PlayAt w1.heap.size w4.heap.size (w4.alloc (.cells #[.slice AT t.length dT,.int .i64 0,.int .i64 0] 49)) AT t.length dT t 0 0:=
  ⟨((SlR.lt (by omega) hsT).mono (fun _ _ h=>h) (fun b hb=>⟨Nat.ne_of_lt hb.2,Nat.le_trans x13.size hb.1⟩)).ext (keep_rune _) ((Ext.refl _).alloc _),by simp,by simp,by simp⟩
 have W0:=Wr.new w4 #[.slice AT t.length dT,.int .i64 0,.int .i64 0] 49;have E0:=(Ext.refl w4).alloc (.cells #[.slice AT t.length dT,.int .i64 0,.int .i64 0] 49);have wa4:=wa.ext x14;have wb4:=wb.ext x14;have z0:=x14.cell k0;have z1:=x14.cell k1;have z2:=x14.cell k2;have z3:=x14.cell k3;have z4:=x14.cell k4;have n1:=Nat.ne_of_lt wa4.1;have n2':=Nat.ne_of_lt wb4.1;have n3':=n1.symm;have n4':=n2'.symm;have hle:w.heap.size<=w4.heap.size:=e14.size;have hle1:w1.heap.size<=w4.heap.size:=x14.size;have hlen4:t.length<=4000:=by rw[htl.out];exact hm
 clear hx2 hx3 hx4 x13 ov hsT HC HT HCl HF k0 k1 k2 k3 k4 x14;generalize hW4:w4.alloc (.cells #[.slice AT t.length dT,.int .i64 0,.int .i64 0] 49)=w5 at *
 go_loopw [10] (fun i wr=>∃ (AT:Option Addr) (mT dT:Nat) (tx:List Int) (a s p:Nat),i=.int .i64 a/\PlayAt w1.heap.size w4.heap.size wr AT mT dT tx s p/\Wr wr w4.heap.size/\a<=mT/\mT<=4000/\s<=L/\p<=s/\runText l t=play l (L-s) ⟨tx,a,s,p⟩/\Ext w4 wr)
  (fun _ wr=>L-cellN (wr.cell? ⟨w4.heap.size,1,none⟩))
 case atStart=>exact⟨AT,t.length,dT,t,0,0,0,rfl,P0,W0,by omega,hlen4,by omega,by omega,HRT.out,E0⟩
 case round=>
  obtain⟨AT,mT,dT,tx,a,s,p,rfl,PA,WA,ha,hmT,hs,hps,hplay,hx⟩:=hrel;have HP:=hid hplay;clear hplay;have y0:=PA.c0;have y1:=PA.c1;have y2:=PA.c2;have wz:=WA.2;have va:=(wa4.ext hx).2;have vb:=(wb4.ext hx).2;have v0:=hx.cell z0;have v1:=hx.cell z1;have v2:=hx.cell z2;have v3:=hx.cell z3;have v4:=hx.cell z4;have ew:=e14.trans hx;have hPL:=hid PA.text.len;by_cases hlt:a<mT
  ·by_cases hL:s=L
   ·have HO2:Hid (runAll l t=⟨[],0,0,9⟩):=hid (by rw[HO.out,HP.out,hL,Nat.sub_self,play_out (by simpa [hPL.out] using hlt)]);have HF2:Hid (runF l t=(9,0)):=hid (by rw[HRF.out,<- HO.out,HO2.out]);have hq:((s:Int)==(L:Int))=true:=by rw[hL];simp
    clear hL;go_wp2;refine bodyPost_ret (v:=.tuple #[.agg #[.slice none 0 0,.int .i64 0,.int .i64 0],.agg #[.int .i64 9,.int .i64 0]]) (by simp[results,Tryz.results18,go_sem,v0,v1,v2,v3,v4]) rfl ?_;exact⟨RunR.bad HO2.out HF2.out rfl,by repeat (first | exact ew | refine ext_set ?_ (by omega) _ _)⟩
   ·have hq:((s:Int)==(L:Int))=false:=by simp;omega
    have hsL:s<L:=by omega
    have P1:=PA.step (x:=(s:Int)+1) (by omega);have W1:=WA.set ⟨w4.heap.size,1,none⟩ (.int .i64 ((s:Int)+1));have E1:=ext_set hx (Nat.le_refl _) 1 (.int .i64 ((s:Int)+1));by_cases hk:first l tx a<0
    ·have HST:Hid (runText l t=play l (L-(s+1)) ⟨tx,a+1,s+1,p⟩):=hid (by
      rw[HP.out,show L-s=(L-(s+1))+1 by omega,play_next (by simpa [hPL.out] using hlt) (playStep_no hk)])
     have hk':decide (first l tx a<0)=true:=by simpa using hk
     clear hL hk;go_wp2_with (go_at_call 34;refine (First_any A n c l AT mT dT tx a _ (h.ext (e14.trans E1)) P1.runes hmT ha OK.out).mono ?_;rintro e w6 ⟨rfl,hx6⟩);go_roundw;case rel=>exact⟨AT,mT,dT,tx,a+1,s+1,p,by go_num,P1.ext hx6,W1.ext hx6,by omega,hmT,by omega,by omega,HST.out,E1.trans hx6⟩
     case measure=>rw[cellN_nat (P1.ext hx6).c1,cellN_nat y1];omega
    ·obtain⟨i,r,hir,hhere,hfi⟩:=first_mem (by omega:0<=first l tx a);have HI:=hid hir;have HH:=hid hhere;have HFI:=hid hfi;have hroom:=here_room hhere;rw[hPL.out] at hroom;have hrok:=OK.out r (List.mem_of_getElem? hir);have hok2:=hrok.ls;have hok4:=hrok.lt;have HRO:=hid hrok;have hil:i<n:=by rw[<- h.len];exact (List.getElem?_eq_some_iff.1 hir).1
     clear hL hk hir hhere hfi hrok;go_upto_region 19 with (go_at_call 34;refine (First_any A n c l AT mT dT tx a _ (h.ext (e14.trans E1)) P1.runes hmT ha OK.out).mono ?_;rintro e w6 ⟨rfl,hx6⟩;rw[HFI.out];have P2:=P1.ext hx6;have W2:=W1.ext hx6;have E2:=E1.trans hx6;have E3:=ext_set E2 (Nat.le_refl _) 2 (.int .i64 ((p:Int)+1));obtain⟨b,off,s',f',A1,n1',c1,A2,n2,c2,A3,n3,c3,A4,n4,c4,q,rfl,⟨_,hne⟩,hv,r0,r1,r2,r3,r4,r5,r6⟩:=(h.ext (e14.trans E3)).rule HI.out;have x2:=P2.c2;have xz:=W2.2;have hBs:=W2.1);have P3:=(P2.puts (x:=(p:Int)+1) (by omega)).ext ((Ext.refl _).alloc (.cells #[.bool s',.bool f',.slice A1 n1' c1,.slice A2 n2 c2,.slice A3 n3 c3,.slice A4 n4 c4,.int .i64 q] 61));have W3:=(W2.set ⟨w4.heap.size,2,none⟩ (.int .i64 ((p:Int)+1))).ext ((Ext.refl _).alloc (.cells #[.bool s',.bool f',.slice A1 n1' c1,.slice A2 n2 c2,.slice A3 n3 c3,.slice A4 n4 c4,.int .i64 q] 61));have E4:=E3.alloc (.cells #[.bool s',.bool f',.slice A1 n1' c1,.slice A2 n2 c2,.slice A3 n3 c3,.slice A4 n4 c4,.int .i64 q] 61);have hR4:=RuleAt.new (s:=s') (f:=f') (A1:=A1) (n1:=n1') (c1:=c1) (A2:=A2) (n2:=n2) (c2:=c2) (A3:=A3) (n3:=n3) (c3:=c3) (A4:=A4) (n4:=n4) (c4:=c4) (q:=q) (w6.setCell ⟨w4.heap.size,2,none⟩ (.int .i64 ((p:Int)+1))) 61;have hV4:=hv.ext (((Ext.refl _).alloc (.cells #[.bool s',.bool f',.slice A1 n1' c1,.slice A2 n2 c2,.slice A3 n3 c3,.slice A4 n4 c4,.int .i64 q] 61)).agree top);rw[World.size_setCell] at hR4;have hB6:w6.heap.size<((w6.setCell ⟨w4.heap.size,2,none⟩ (.int .i64 ((p:Int)+1))).alloc (.cells #[.bool s',.bool f',.slice A1 n1' c1,.slice A2 n2 c2,.slice A3 n3 c3,.slice A4 n4 c4,.int .i64 q] 61)).heap.size:=by simp
     have hB7:w4.heap.size≠w6.heap.size:=Nat.ne_of_lt hBs;have n5:w.heap.size≠w6.heap.size:=by omega
     have n6:w.heap.size+1≠w6.heap.size:=by omega
     clear r0 r1 r2 r3 r4 r5 r6 x2 xz E3 P2 W2 hx6 hv;generalize (w6.setCell ⟨w4.heap.size,2,none⟩ (.int .i64 ((p:Int)+1))).alloc (.cells #[.bool s',.bool f',.slice A1 n1' c1,.slice A2 n2 c2,.slice A3 n3 c3,.slice A4 n4 c4,.int .i64 q] 61)=w8 at *;have x0:=P3.c0;have x1:=P3.c1;have x2:=P3.c2;have xz:=W3.2;have q0:=E4.cell z0;have q1:=E4.cell z1;have q2:=E4.cell z2;have q3:=E4.cell z3;have q4:=E4.cell z4;have qa:=(wa4.ext E4).2;have qb:=(wb4.ext E4).2;have hl2:=hok2;rw[hV4.source.len] at hl2;have hl4:=hok4;rw[hV4.target.len] at hl4;have HN2:=hid hV4.source.len;have HN4:=hid hV4.target.len;have HQ:=hid hV4.cursor;have t3:=hR4.h3;have t5:=hR4.h5;have t6:=hR4.h6;clear y0 y1 y2 wz va vb v0 v1 v2 v3 v4 z0 z1 z2 z3 z4;by_cases hbig:4000<(mT:Int)-(n2:Int)+(n4:Int)
     ·have HO2:Hid (runAll l t=⟨[],0,0,4⟩):=hid (by
       rw[HO.out,HP.out,show L-s=(L-(s+1))+1 by omega,play_none (by simpa [hPL.out] using hlt) (playStep_much HFI.out HI.out (by rw[hPL.out,HN2.out,HN4.out];exact hbig))])
      have HF2:Hid (runF l t=(4,0)):=hid (by rw[HRF.out,<- HO.out,HO2.out]);have HB:decide (4000<(mT:Int)-(n2:Int)+(n4:Int))=true:=by simpa using hbig
      clear hbig hroom;go_wp2;refine bodyPost_ret (v:=.tuple #[.agg #[.slice none 0 0,.int .i64 0,.int .i64 0],.agg #[.int .i64 4,.int .i64 0]]) (by simp[results,Tryz.results18,go_sem,q0,q1,q2,q3,q4]) rfl ?_;exact⟨RunR.bad HO2.out HF2.out rfl,by repeat (first | exact e14.trans E4 | refine ext_set ?_ (by omega) _ _)⟩
     ·have HB:decide (4000<(mT:Int)-(n2:Int)+(n4:Int))=false:=by simpa using hbig
      have HST:Hid (runText l t=play l (L-(s+1)) ⟨putAt r tx a,a+r.cursor.toNat,s+1,p+1⟩):=hid (by
       rw[HP.out,show L-s=(L-(s+1))+1 by omega,play_next (by simpa [hPL.out] using hlt) (playStep_put HFI.out HI.out (by rw[hPL.out,HN2.out,HN4.out];exact hbig))])
      have HBG:=hid hbig;clear hbig;have hro:=hroom;rw[HN2.out] at hro;have hcT:=P3.text.cap;have hs1:=fun W=>run_cut_h T_rune AT mT dT (a:Int) a rfl (by omega) W;have hs2:=fun W=>run_cut_l T_rune AT mT dT ((a:Int)+(n2:Int)) (a+n2) (by omega) (by omega) W;clear hroom;have hw:IntKind.i64.wrap ((a:Int)+n2)=(a:Int)+n2:=IntWalk.i64_in _ (by omega);go_wp2;go_still_tail 14,(by kernel_rfl)
      change wpList _ _ _ _ _ w8.drew;clear hw;have E5:=E4.drew;have hfl:[tx.take a,r.target,tx.drop (a+n2)].flatten=putAt r tx a:=by unfold putAt;rw[HN2.out];simp
      have hplen:=putAt_len (r:=r) (t:=tx) (a:=a) (by rw[HN2.out,hPL.out];exact hro);rw[hPL.out,HN2.out,HN4.out] at hplen;have P5:=P3.ext (Ext.refl w8).drew;have hT:=pieces_new AT A4 (cutA AT dT (a+n2) 1) a dT n4 c4 (mT-(a+n2)) (dT-(a+n2)) (tx.take a) r.target (tx.drop (a+n2)) 31 (P5.runes.take (by omega)) (hV4.target.ext (Ext.refl w8).drew) (P5.runes.drop (by omega));have HC:=hid (Concat_rune one_rune (keep_rune bot) _ 3 3 _ _ hT (by rw[hfl];omega) (fun _ _ h=>h));rw[hfl] at HC;clear hT hfl;have hq0:=HRO.out.c0;have hq1:=HRO.out.c1;rw[HQ.out] at hq0 hq1;rw[HN4.out] at hq1;have t6d:=(Ext.refl w8).drew.cell t6;have hB8:=hB7.symm;go_wp2_with (go_at_call 35;refine HC.out.mono ?_;rintro e w9 ⟨v,rfl,ov,ex9⟩;obtain⟨AX,cX,rfl,sX⟩:=ov.sl;have EB:=((Ext.refl w8.drew).alloc (.cells #[.slice AT a dT,.slice A4 n4 c4,.slice (cutA AT dT (a+n2) 1) (mT-(a+n2)) (dT-(a+n2))] 31)).trans ex9;have P6:=P5.ext EB;have W6:=(W3.ext (Ext.refl w8).drew).ext EB;have g0:=P6.c0;have gz:=W6.2;have g6:=EB.cell t6d);have hw4:=W3.1;have sX':SlR rRune 1 (fun b=>b≠w4.heap.size/\w1.heap.size<=b) w9 AX (putAt r tx a).length cX (putAt r tx a):=sX.mono (fun _ _ h=>h) (fun b hb=>by simp at hb;omega);have P7:=P6.turn sX';have hcur:((a:Int)+q)=((a+r.cursor.toNat:Nat):Int):=by rw[HQ.out];omega
      go_roundw;case rel=>exact⟨AX,_,cX,putAt r tx a,a+r.cursor.toNat,s+1,p+1,by rw[<- hcur],P7,W6.set _ _,by rw[HQ.out];omega,by have:=HBG.out;omega,by omega,by omega,HST.out,ext_set (E5.trans EB) (Nat.le_refl _) _ _⟩
      case measure=>rw[cellN_nat P7.c1,cellN_nat PA.c1];omega
  ·have HO2:Hid (runAll l t=⟨tx,s,p,0⟩):=hid (by rw[HO.out,HP.out,play_end (by simpa [hPL.out] using hlt)]);have HF2:Hid (runF l t=(0,0)):=hid (by rw[HRF.out,<- HO.out,HO2.out]);go_wp2;refine bodyPost_ret (v:=.tuple #[.agg #[.slice AT mT dT,.int .i64 s,.int .i64 p],.agg #[.int .i64 0,.int .i64 0]]) (by simp[results,Tryz.results18,go_sem,v0,v1,v2,v3,v4]) rfl ?_
   exact⟨RunR.fine HO2.out HF2.out (by
    refine SlR.mono (ok:=fun b=>b≠w4.heap.size/\w1.heap.size<=b) ?_ (fun _ _ h=>h) (fun _ _=>trivial)
    repeat (first | exact PA.text | refine SlR.far ?_ (keep_rune _) (fun b hb=>by have:=hb.2;omega))),by repeat (first | exact ew | refine ext_set ?_ (by omega) _ _)⟩
theorem Run_any (A:Option Addr) (n c:Nat) (l:List Rule) (X:Option Addr) (m d:Nat) (t:List Int) (w:World) (h:Rules w A n c l) (ht:Runes w X m d t) :
  Calls Tryz.prog 18 #[.slice A n c,.slice X m d] w fun e w'=>RunR l t w' e/\Ext w w':=by
 by_cases hr:(wrongRules l).1=0
 ·by_cases hx:wrongText t=0
  ·exact Run_plays A n c l X m d t w h ht hr hx
  ·exact Run_text A n c l X m d t w h ht hr hx
 ·exact Run_rules A n c l X m d t w h ht hr
end Go.Proofs.YthomjcjnalfipaaGreatDoor
namespace Go.Proofs.YthomjcjnalfipaaGreatDoor
theorem play_still {l:List Rule} {t:List Int} (h:∀ a:Nat,a<t.length->first l t a<0):∀ (n a s p:Nat),a<=t.length->t.length-a<=n ->
  play l n ⟨t,a,s,p⟩=⟨t,s+(t.length-a),p,0⟩
 | n,a,s,p,ha,hn=>by
  by_cases hlt:a<t.length
  ·match n with
   | 0=>omega
   | n+1=>
    rw[play_next hlt (playStep_no (h a hlt)),play_still h n (a+1) (s+1) p (by omega) (by omega)];congr 1;omega
  ·rw[play_end (by simpa using hlt)];show (⟨t,s,p,0⟩:Out)=⟨t,s+(t.length-a),p,0⟩;congr 1;omega
theorem run_still {l:List Rule} {t:List Int} (hc:(checkRun l t).1=0) (h:∀ a:Nat,a<t.length->first l t a<0):runAll l t=⟨t,t.length,0,0⟩/\runF l t=(0,0):=by
 have e:runText l t=⟨t,t.length,0,0⟩:=by
  unfold runText;rw[play_still h _ 0 0 0 (by omega) (by omega)];congr 1;omega
 rw[runAll_ok hc,runF_ok hc,e];exact⟨rfl,rfl⟩
theorem check_both {l:List Rule} {t:List Int} (hr:(wrongRules l).1=0) (ht:wrongText t=0):(checkRun l t).1=0:=by rw[checkRun_text hr];exact ht
end Go.Proofs.YthomjcjnalfipaaGreatDoor
