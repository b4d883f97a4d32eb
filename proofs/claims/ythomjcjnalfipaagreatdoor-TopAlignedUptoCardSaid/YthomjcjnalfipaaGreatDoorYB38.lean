/- A part of the proofs of the Top laws. -/
import Derived.Deep.Cut
import Derived.Deep.CutRange
import Derived.Test.YthomjcjnalfipaaGreatDoorRows
import Derived.ProofKit
import Derived.OpenShut
import Derived.ChangeOld
import Derived.Deep.Fields
import Derived.Test.YthomjcjnalfipaaGreatDoorYB37
set_option linter.all false
set_option maxRecDepth 100000
set_option maxHeartbeats 16000000
open Go.Lib (hid)
namespace Go.Proofs.YthomjcjnalfipaaGreatDoor
open Go.RowKit
theorem part_rule1 (B:Nat) (A:Option Addr) (n c:Nat) (L:List Int) (k:Nat) (w:World) (h:CurAt w B A n c L k) (hn:n<=16000) (hk:k<n) (n58:(lookF L k==58)=false) (hv:¬ (lookF L k=36/\varB L k=true)) (n36:(lookF L k==36)=false) :
  Calls Tryz.prog 47 #[.pointer (some ⟨B,0,none⟩)] w fun e w'=>PRet w B (partF L k) (rPart w.heap.size) e w':=by
 have H:=hid h;have HL:=hid h.row.len;have hnb:=h.nb;have hle:=h.le;have hB:=h.lt.1;obtain⟨T,hT⟩:∃ T,partF L k=T:=⟨_,rfl⟩
 rw[hT];unfold partF at hT;have CP:=hid (fun W (hW:CurAt W B A n c L (k))=>Peek_any B A n c L (k) W hW);have wk:IntKind.i64.wrap ((k:Int)+1)=(k:Int)+1:=IntWalk.i64_in _ (by omega);have T0:=hid (PtV.new w 0 ⟨#[]⟩ none 0 0 0 false false none 0 0 none 0 0 none 0 0 0 false false none 0 0 none 0 0 none 0 0 0);have S0:=hid ((Cr.refl h).ext ((Ext.refl w).alloc (.cells #[.int .i64 0,.string ⟨#[]⟩,.slice none 0 0,.int .i64 0,.bool false,.bool false,.slice none 0 0,.slice none 0 0,.slice none 0 0,.int .i64 0,.bool false,.bool false,.slice none 0 0,.slice none 0 0,.slice none 0 0,.int .i64 0] 111)));have hTB:w.heap.size≠B:=by omega
 have hBT:B≠w.heap.size:=by omega
 have hBb:B<w.heap.size+1:=by omega
 clear h;rw[if_neg (by simpa using n58),if_neg hv] at hT;unfold rulePF at hT;clear hv;generalize lookF L k=r at *;go_enter Tryz.func47,Tryz.ntmps47
 go_wp2_with (first
  | (go_at_call 46;((with_reducible refine (CP.out _ S0.out.cur).mono ?_);rintro e w1 ⟨rfl,x1⟩;have S1:=hid (S0.out.ext x1);have T1:=hid (T0.out.ext x1);(try clear k1 kz kl);have k1:=S1.out.cur.c1;have kz:=S1.out.cur.fz;have kl:=S1.out.cur.lt;(try clear t0 t1 t2 t3 t4 t5 t6 t7 t8 t9 t10 t11 t12 t13 t14 t15 tz tl);obtain⟨⟨t0,t1,t2,t3,t4,t5,t6,t7,t8,t9,t10,t11,t12,t13,t14,t15,tl⟩,tz⟩:=T1.out;clear x1))
  | (go_at_call 46;((with_reducible refine (CP.out _ S1.out.cur).mono ?_);rintro e w2 ⟨rfl,x2⟩;have S2:=hid (S1.out.ext x2);have T2:=hid (T1.out.ext x2);(try clear k1 kz kl);have k1:=S2.out.cur.c1;have kz:=S2.out.cur.fz;have kl:=S2.out.cur.lt;(try clear t0 t1 t2 t3 t4 t5 t6 t7 t8 t9 t10 t11 t12 t13 t14 t15 tz tl);obtain⟨⟨t0,t1,t2,t3,t4,t5,t6,t7,t8,t9,t10,t11,t12,t13,t14,t15,tl⟩,tz⟩:=T2.out;clear x2)))
 generalize hTb:w.heap.size=Tb at *;have HTE:=hid hTb;clear hTb;clear S0 T0;have hsz:∀ {W:World},(Tb<W.heap.size/\Tb≠W.heap.size)->Tb+1<=W.heap.size:=fun h=>by omega
 go_wp2_with fail;have CL:=hid (fun W (hW:CurAt W B A n c L (k))=>side_any B A n c L k W hW hn);have HAXL:=hid (sideF_adv (L:=L) (k:=k) (by have:=HL.out;omega));obtain⟨XL,hXL⟩:∃ XL,XL=sideF L k:=⟨_,rfl⟩
 have HEXL:=hid hXL;rw[<- hXL] at hT CL HAXL;clear hXL;go_at_call 80;refine (CL.out _ S2.out.cur).mono ?_;intro e w3 h5
 cases XL with
 | fail er qe=>
  simp only[PR.bind] at hT;subst hT;obtain⟨rfl,qz,mz⟩:=h5;exact⟨rfl,rfl,_,S2.out.mv.trans H.out mz⟩
 | ok rXL kL=>
  obtain⟨v,rfl,⟨A1,n1,c1,A2,n2,c2,A3,n3,c3,rfl,sd1⟩,m5⟩:=h5;simp only[PR.bind] at hT
  try dsimp only at hT
  have hkXL:=HAXL.out _ _ rfl;have hknXL:kL<=n:=by have:=HL.out;omega
  have S3:=hid (S2.out.go H.out m5 hknXL);have T3:=hid (T2.out.mv m5 hTB);have YL:=hid (SdA.lt (SdA.mono sd1 (fun b hb=>Nat.le_trans (hsz T2.out.box.lt) hb)))
  (try clear k1 kz kl)
  have k1:=S3.out.cur.c1;have kz:=S3.out.cur.fz;have kl:=S3.out.cur.lt
  (try clear t0 t1 t2 t3 t4 t5 t6 t7 t8 t9 t10 t11 t12 t13 t14 t15 tz tl)
  obtain⟨⟨t0,t1,t2,t3,t4,t5,t6,t7,t8,t9,t10,t11,t12,t13,t14,t15,tl⟩,tz⟩:=T3.out;clear m5 sd1
  try dsimp only
  have S4:=hid (S3.out.ext ((Ext.refl _).alloc (.cells #[.int .i64 2,.string ⟨#[]⟩,.slice none 0 0,.int .i64 0,.bool rXL.st,.bool rXL.en,.slice A1 n1 c1,.slice A2 n2 c2,.slice A3 n3 c3,.int .i64 rXL.cursor,.bool false,.bool false,.slice none 0 0,.slice none 0 0,.slice none 0 0,.int .i64 0] 111)));have T4:=hid (T3.out.ext ((Ext.refl _).alloc (.cells #[.int .i64 2,.string ⟨#[]⟩,.slice none 0 0,.int .i64 0,.bool rXL.st,.bool rXL.en,.slice A1 n1 c1,.slice A2 n2 c2,.slice A3 n3 c3,.int .i64 rXL.cursor,.bool false,.bool false,.slice none 0 0,.slice none 0 0,.slice none 0 0,.int .i64 0] 111)));have P4:=hid (PtV.new w3 2 ⟨#[]⟩ none 0 0 0 rXL.st rXL.en A1 n1 c1 A2 n2 c2 A3 n3 c3 rXL.cursor false false none 0 0 none 0 0 none 0 0 0);have HCP:Hid (∀ (j:Nat) (W:World) (o:Nat) (v:Value),Cr w B A n c L j W->Cr w B A n c L j (W.setCell ⟨w3.heap.size,o,none⟩ v)):=hid (fun j W o v h=>h.other H.out S3.out.mv.size o v);have hPB:w3.heap.size≠B:=by have:=S3.out.cur.lt;omega
  have hBP:B≠w3.heap.size:=by omega
  have hTP:Tb≠w3.heap.size:=by have:=T3.out.box.lt;omega
  have hPT:w3.heap.size≠Tb:=by omega
  have HPT:Hid (Tb<w3.heap.size):=hid T3.out.box.lt.1;have YL:=hid (SdA.mono (SdA.ext YL.out ((Ext.refl _).alloc (.cells #[.int .i64 2,.string ⟨#[]⟩,.slice none 0 0,.int .i64 0,.bool rXL.st,.bool rXL.en,.slice A1 n1 c1,.slice A2 n2 c2,.slice A3 n3 c3,.int .i64 rXL.cursor,.bool false,.bool false,.slice none 0 0,.slice none 0 0,.slice none 0 0,.int .i64 0] 111))) (ok':=fun b=>Tb+1<=b/\b≠w3.heap.size) (fun b hb=>⟨hb.1,Nat.ne_of_lt hb.2⟩));have hKB:∀ b,(Tb+1<=b/\b≠w3.heap.size)->b≠B:=fun b hb=>by omega
  have hKP:∀ b,(Tb+1<=b/\b≠w3.heap.size)->b≠w3.heap.size:=fun b hb=>hb.2;go_wp2_with fail;have CA:=hid (fun W (hW:CurAt W B A n c L (kL))=>arrow_any B A n c L kL W hW);have HAXA:=hid (arrowF_adv (L:=L) (k:=kL));obtain⟨XA,hXA⟩:∃ XA,XA=arrowF L kL:=⟨_,rfl⟩
  have HEXA:=hid hXA;rw[<- hXA] at hT CA HAXA;clear hXA;go_at_call 81;refine (CA.out _ S4.out.cur).mono ?_;intro e w5 h5
  cases XA with
  | fail er qe=>
   simp only[PR.bind] at hT;subst hT;obtain⟨rfl,qz,mz⟩:=h5;exact⟨rfl,rfl,_,S4.out.mv.trans H.out mz⟩
  | ok rXA kA=>
   obtain⟨v,rfl,rfl,m5⟩:=h5;simp only[PR.bind] at hT
   try dsimp only at hT
   have hkXA:=HAXA.out _ _ rfl;have hknXA:kA<=n:=by have:=HL.out;omega
   have S5:=hid (S4.out.go H.out m5 hknXA);have T5:=hid (T4.out.mv m5 hTB);have P5:=hid (P4.out.mv m5 hPB);have YL:=hid (SdA.mvG YL.out m5 hKB);generalize hPb:w3.heap.size=Pb at *;clear hPb
   (try clear k1 kz kl)
   have k1:=S5.out.cur.c1;have kz:=S5.out.cur.fz;have kl:=S5.out.cur.lt
   (try clear t0 t1 t2 t3 t4 t5 t6 t7 t8 t9 t10 t11 t12 t13 t14 t15 tz tl)
   obtain⟨⟨t0,t1,t2,t3,t4,t5,t6,t7,t8,t9,t10,t11,t12,t13,t14,t15,tl⟩,tz⟩:=T5.out
   (try clear p0 p1 p2 p3 p4 p5 p6 p7 p8 p9 p10 p11 p12 p13 p14 p15 pz pl)
   obtain⟨⟨p0,p1,p2,p3,p4,p5,p6,p7,p8,p9,p10,p11,p12,p13,p14,p15,pl⟩,pz⟩:=P5.out;clear m5
   try dsimp only
   have HDI:=hid (arrowF_i64 HEXA.out.symm)
   try generalize (Value.agg #[.int .i64 2,.string ⟨#[]⟩,.slice none 0 0,.int .i64 0,.bool rXL.st,.bool rXL.en,.slice A1 n1 c1,.slice A2 n2 c2,.slice A3 n3 c3,.int .i64 rXL.cursor,.bool false,.bool false,.slice none 0 0,.slice none 0 0,.slice none 0 0,.int .i64 0])=G0
   try generalize (Value.agg #[.bool rXL.st,.bool rXL.en,.slice A1 n1 c1,.slice A2 n2 c2,.slice A3 n3 c3,.int .i64 rXL.cursor])=G1
   have S6:=hid (HCP.out _ _ 3 (.int .i64 rXA) S5.out);have T6:=hid (T5.out.off hTP 3 (.int .i64 rXA));have P6:=hid (P5.out.set3 rXA);have YL:=hid (SdA.offG YL.out hKP 3 (.int .i64 rXA));go_wp2_with fail;have CR:=hid (fun W (hW:CurAt W B A n c L (kA))=>side_any B A n c L kA W hW hn);have HAXR:=hid (sideF_adv (L:=L) (k:=kA) (by have:=HL.out;omega));obtain⟨XR,hXR⟩:∃ XR,XR=sideF L kA:=⟨_,rfl⟩
   have HEXR:=hid hXR;rw[<- hXR] at hT CR HAXR;clear hXR;go_at_call 80;refine (CR.out _ S6.out.cur).mono ?_;intro e w7 h5
   cases XR with
   | fail er qe=>
    simp only[PR.bind] at hT;subst hT;obtain⟨rfl,qz,mz⟩:=h5;exact⟨rfl,rfl,_,S6.out.mv.trans H.out mz⟩
   | ok rXR kR=>
    obtain⟨v,rfl,⟨A4,n4,c4,A5,n5,c5,A6,n6,c6,rfl,sd2⟩,m5⟩:=h5;simp only[PR.bind] at hT
    try dsimp only at hT
    have hkXR:=HAXR.out _ _ rfl;have hknXR:kR<=n:=by have:=HL.out;omega
    have S7:=hid (S6.out.go H.out m5 hknXR);have T7:=hid (T6.out.mv m5 hTB);have P7:=hid (P6.out.mv m5 hPB);have YL:=hid (SdA.mvG YL.out m5 hKB);have YR:=hid (SdA.mono sd2 (ok':=(fun b=>Tb+1<=b/\b≠Pb)) (fun b hb=>by have h1:=T6.out.box.lt;have h2:=P6.out.box.lt;have hb:=hb;exact⟨by omega,by omega⟩))
    (try clear k1 kz kl)
    have k1:=S7.out.cur.c1;have kz:=S7.out.cur.fz;have kl:=S7.out.cur.lt
    (try clear t0 t1 t2 t3 t4 t5 t6 t7 t8 t9 t10 t11 t12 t13 t14 t15 tz tl)
    obtain⟨⟨t0,t1,t2,t3,t4,t5,t6,t7,t8,t9,t10,t11,t12,t13,t14,t15,tl⟩,tz⟩:=T7.out
    (try clear p0 p1 p2 p3 p4 p5 p6 p7 p8 p9 p10 p11 p12 p13 p14 p15 pz pl)
    obtain⟨⟨p0,p1,p2,p3,p4,p5,p6,p7,p8,p9,p10,p11,p12,p13,p14,p15,pl⟩,pz⟩:=P7.out;clear m5 sd2
    try dsimp only
    have S8:=hid (HCP.out _ _ 10 (.bool rXR.st) S7.out);have T8:=hid (T7.out.off hTP 10 (.bool rXR.st));have P8:=hid (P7.out.set10 rXR.st);have YL:=hid (SdA.offG YL.out hKP 10 (.bool rXR.st));have YR:=hid (SdA.offG YR.out hKP 10 (.bool rXR.st));have S9:=hid (HCP.out _ _ 11 (.bool rXR.en) S8.out);have T9:=hid (T8.out.off hTP 11 (.bool rXR.en));have P9:=hid (P8.out.set11 rXR.en);have YL:=hid (SdA.offG YL.out hKP 11 (.bool rXR.en));have YR:=hid (SdA.offG YR.out hKP 11 (.bool rXR.en));have S10:=hid (HCP.out _ _ 12 (.slice A4 n4 c4) S9.out);have T10:=hid (T9.out.off hTP 12 (.slice A4 n4 c4));have P10:=hid (P9.out.set12 A4 n4 c4);have YL:=hid (SdA.offG YL.out hKP 12 (.slice A4 n4 c4));have YR:=hid (SdA.offG YR.out hKP 12 (.slice A4 n4 c4));have S11:=hid (HCP.out _ _ 13 (.slice A5 n5 c5) S10.out);have T11:=hid (T10.out.off hTP 13 (.slice A5 n5 c5));have P11:=hid (P10.out.set13 A5 n5 c5);have YL:=hid (SdA.offG YL.out hKP 13 (.slice A5 n5 c5));have YR:=hid (SdA.offG YR.out hKP 13 (.slice A5 n5 c5));have S12:=hid (HCP.out _ _ 14 (.slice A6 n6 c6) S11.out);have T12:=hid (T11.out.off hTP 14 (.slice A6 n6 c6));have P12:=hid (P11.out.set14 A6 n6 c6);have YL:=hid (SdA.offG YL.out hKP 14 (.slice A6 n6 c6));have YR:=hid (SdA.offG YR.out hKP 14 (.slice A6 n6 c6));have S13:=hid (HCP.out _ _ 15 (.int .i64 rXR.cursor) S12.out);have T13:=hid (T12.out.off hTP 15 (.int .i64 rXR.cursor));have P13:=hid (P12.out.set15 rXR.cursor);have YL:=hid (SdA.offG YL.out hKP 15 (.int .i64 rXR.cursor));have YR:=hid (SdA.offG YR.out hKP 15 (.int .i64 rXR.cursor));go_upto_region 24 with fail
    try generalize (Value.agg #[.bool rXR.st,.bool rXR.en,.slice A4 n4 c4,.slice A5 n5 c5,.slice A6 n6 c6,.int .i64 rXR.cursor])=G2
    generalize ((((((w7.setCell ⟨Pb,10,none⟩ (.bool rXR.st)).setCell ⟨Pb,11,none⟩ (.bool rXR.en)).setCell ⟨Pb,12,none⟩ (.slice A4 n4 c4)).setCell ⟨Pb,13,none⟩ (.slice A5 n5 c5)).setCell ⟨Pb,14,none⟩ (.slice A6 n6 c6)).setCell ⟨Pb,15,none⟩ (.int .i64 rXR.cursor))=w13 at *
    (try clear k1 kz kl)
    have k1:=S13.out.cur.c1;have kz:=S13.out.cur.fz;have kl:=S13.out.cur.lt
    (try clear t0 t1 t2 t3 t4 t5 t6 t7 t8 t9 t10 t11 t12 t13 t14 t15 tz tl)
    obtain⟨⟨t0,t1,t2,t3,t4,t5,t6,t7,t8,t9,t10,t11,t12,t13,t14,t15,tl⟩,tz⟩:=T13.out
    (try clear p0 p1 p2 p3 p4 p5 p6 p7 p8 p9 p10 p11 p12 p13 p14 p15 pz pl)
    obtain⟨⟨p0,p1,p2,p3,p4,p5,p6,p7,p8,p9,p10,p11,p12,p13,p14,p15,pl⟩,pz⟩:=P13.out;clear S7 T7 P7 S8 T8 P8 S9 T9 P9 S10 T10 P10 S11 T11 P11 S12 T12 P12;have CPW:=hid (partW_any (p:=⟨2,.empty,[],rXA,rXL,rXR⟩) (ok:=(fun b=>Tb+1<=b/\b≠Pb)) (A:=none) (n:=0) (c:=0) ⟨ik2,HDI.out,Nat.zero_le _,SlR.nil _ _ _ _ _ _ (by unfold maxLen;omega)⟩ YL.out YR.out);obtain⟨er,her⟩:∃ er,er=partW ⟨2,.empty,[],rXA,rXL,rXR⟩:=⟨_,rfl⟩
    rw[<- her] at hT CPW;clear her;by_cases hz:er=0
    ·rw[if_neg (by simp[hz])] at hT;subst hz;subst hT
     go_wp2_with (first
      | (go_at_call 82;((refine (CPW.out).mono ?_);rintro e w14 ⟨rfl,x14⟩;have S14:=hid (S13.out.ext x14);have T14:=hid (T13.out.ext x14);have P14:=hid (P13.out.ext x14);have YL:=hid (SdA.ext YL.out x14);have YR:=hid (SdA.ext YR.out x14);(try clear k1 kz kl);have k1:=S14.out.cur.c1;have kz:=S14.out.cur.fz;have kl:=S14.out.cur.lt;(try clear t0 t1 t2 t3 t4 t5 t6 t7 t8 t9 t10 t11 t12 t13 t14 t15 tz tl);obtain⟨⟨t0,t1,t2,t3,t4,t5,t6,t7,t8,t9,t10,t11,t12,t13,t14,t15,tl⟩,tz⟩:=T14.out;(try clear p0 p1 p2 p3 p4 p5 p6 p7 p8 p9 p10 p11 p12 p13 p14 p15 pz pl);obtain⟨⟨p0,p1,p2,p3,p4,p5,p6,p7,p8,p9,p10,p11,p12,p13,p14,p15,pl⟩,pz⟩:=P14.out;clear x14))
      | (refine wpList_storeP T14.out rfl (.tmp 2) (.tmp 111) rfl rfl rfl ?_;intro wF FF AGF SZF EXF))
     have SF:Mv B _ w wF:=EXF _ (by rw[size_set,HTE.out];exact Nat.le_refl _) S14.out.mv;have AG:Agree (fun b=>Tb+1<=b) _ wF:=AGF.mono (fun b hb=>by omega);have HM:∀ b,Tb+1<=b->w.heap.size<=b:=fun b hb=>by rw[HTE.out];omega
     have RL:=SdA.mono (SdA.keep (SdA.mono YL.out (fun b hb=>hb.1)) AG) HM;have RR:=SdA.mono (SdA.keep (SdA.mono YR.out (fun b hb=>hb.1)) AG) HM;obtain⟨⟨u0,u1,u2,u3,u4,u5,u6,u7,u8,u9,u10,u11,u12,u13,u14,u15,ul⟩,uz⟩:=FF;refine bodyPost_ret (v:=.agg #[.int .i64 2,.string ⟨#[]⟩,.slice none 0 0,.int .i64 rXA,.bool rXL.st,.bool rXL.en,.slice A1 n1 c1,.slice A2 n2 c2,.slice A3 n3 c3,.int .i64 rXL.cursor,.bool rXR.st,.bool rXR.en,.slice A4 n4 c4,.slice A5 n5 c5,.slice A6 n6 c6,.int .i64 rXR.cursor]) (by simp[results,Tryz.results47,go_sem,u0,u1,u2,u3,u4,u5,u6,u7,u8,u9,u10,u11,u12,u13,u14,u15]) rfl ?_;exact⟨_,rfl,⟨_,_,_,_,_,_,_,_,_,_,_,_,_,_,_,_,_,_,_,_,_,rfl,⟨ik2,HDI.out,Nat.zero_le _,SlR.nil _ _ _ _ _ _ (by unfold maxLen;omega)⟩,RL,RR⟩,SF⟩
    ·rw[if_pos hz] at hT;subst hT;have gz:(er != 0)=true:=by simpa using hz
     have CF:=hid (fun W=>Fail_any er k W)
     go_wp2_with (first
      | (go_at_call 82;((refine (CPW.out).mono ?_);rintro e w14 ⟨rfl,x14⟩;have S14:=hid (S13.out.ext x14);have T14:=hid (T13.out.ext x14);have P14:=hid (P13.out.ext x14);have YL:=hid (SdA.ext YL.out x14);have YR:=hid (SdA.ext YR.out x14);(try clear k1 kz kl);have k1:=S14.out.cur.c1;have kz:=S14.out.cur.fz;have kl:=S14.out.cur.lt;(try clear t0 t1 t2 t3 t4 t5 t6 t7 t8 t9 t10 t11 t12 t13 t14 t15 tz tl);obtain⟨⟨t0,t1,t2,t3,t4,t5,t6,t7,t8,t9,t10,t11,t12,t13,t14,t15,tl⟩,tz⟩:=T14.out;(try clear p0 p1 p2 p3 p4 p5 p6 p7 p8 p9 p10 p11 p12 p13 p14 p15 pz pl);obtain⟨⟨p0,p1,p2,p3,p4,p5,p6,p7,p8,p9,p10,p11,p12,p13,p14,p15,pl⟩,pz⟩:=P14.out;clear x14))
      | (go_at_call 44;((with_reducible refine (CF.out _).mono ?_);rintro e wz ⟨rfl,rfl⟩)))
     exact⟨rfl,rfl,_,S14.out.mv⟩
theorem part_rule2 (B:Nat) (A:Option Addr) (n c:Nat) (L:List Int) (k:Nat) (w:World) (h:CurAt w B A n c L k) (hn:n<=16000) (hk:k<n) (n58:(lookF L k==58)=false) (hv:¬ (lookF L k=36/\varB L k=true)) (h36:lookF L k=36) (hvb:varB L k=false) :
  Calls Tryz.prog 47 #[.pointer (some ⟨B,0,none⟩)] w fun e w'=>PRet w B (partF L k) (rPart w.heap.size) e w':=by
 have H:=hid h;have HL:=hid h.row.len;have hnb:=h.nb;have hle:=h.le;have hB:=h.lt.1;obtain⟨T,hT⟩:∃ T,partF L k=T:=⟨_,rfl⟩
 rw[hT];unfold partF at hT;have CP:=hid (fun W (hW:CurAt W B A n c L (k))=>Peek_any B A n c L (k) W hW);have wk:IntKind.i64.wrap ((k:Int)+1)=(k:Int)+1:=IntWalk.i64_in _ (by omega);have T0:=hid (PtV.new w 0 ⟨#[]⟩ none 0 0 0 false false none 0 0 none 0 0 none 0 0 0 false false none 0 0 none 0 0 none 0 0 0);have S0:=hid ((Cr.refl h).ext ((Ext.refl w).alloc (.cells #[.int .i64 0,.string ⟨#[]⟩,.slice none 0 0,.int .i64 0,.bool false,.bool false,.slice none 0 0,.slice none 0 0,.slice none 0 0,.int .i64 0,.bool false,.bool false,.slice none 0 0,.slice none 0 0,.slice none 0 0,.int .i64 0] 111)));have hTB:w.heap.size≠B:=by omega
 have hBT:B≠w.heap.size:=by omega
 have hBb:B<w.heap.size+1:=by omega
 clear h;rw[if_neg (by simpa using n58),if_neg hv] at hT;unfold rulePF at hT;clear hv;rw[h36] at CP n58;have CV:=hid (fun W (hW:CurAt W B A n c L k)=>variable_any B A n c L k W hW hk);rw[hvb] at CV;clear h36 hvb n58;go_enter Tryz.func47,Tryz.ntmps47
 go_wp2_with (first
  | (go_at_call 46;((with_reducible refine (CP.out _ S0.out.cur).mono ?_);rintro e w1 ⟨rfl,x1⟩;have S1:=hid (S0.out.ext x1);have T1:=hid (T0.out.ext x1);(try clear k1 kz kl);have k1:=S1.out.cur.c1;have kz:=S1.out.cur.fz;have kl:=S1.out.cur.lt;(try clear t0 t1 t2 t3 t4 t5 t6 t7 t8 t9 t10 t11 t12 t13 t14 t15 tz tl);obtain⟨⟨t0,t1,t2,t3,t4,t5,t6,t7,t8,t9,t10,t11,t12,t13,t14,t15,tl⟩,tz⟩:=T1.out;clear x1))
  | (go_at_call 46;((with_reducible refine (CP.out _ S1.out.cur).mono ?_);rintro e w2 ⟨rfl,x2⟩;have S2:=hid (S1.out.ext x2);have T2:=hid (T1.out.ext x2);(try clear k1 kz kl);have k1:=S2.out.cur.c1;have kz:=S2.out.cur.fz;have kl:=S2.out.cur.lt;(try clear t0 t1 t2 t3 t4 t5 t6 t7 t8 t9 t10 t11 t12 t13 t14 t15 tz tl);obtain⟨⟨t0,t1,t2,t3,t4,t5,t6,t7,t8,t9,t10,t11,t12,t13,t14,t15,tl⟩,tz⟩:=T2.out;clear x2))
  | (go_at_call 78;((with_reducible refine (CV.out _ S2.out.cur).mono ?_);rintro e w3 ⟨rfl,x3⟩;have S3:=hid (S2.out.ext x3);have T3:=hid (T2.out.ext x3);(try clear k1 kz kl);have k1:=S3.out.cur.c1;have kz:=S3.out.cur.fz;have kl:=S3.out.cur.lt;(try clear t0 t1 t2 t3 t4 t5 t6 t7 t8 t9 t10 t11 t12 t13 t14 t15 tz tl);obtain⟨⟨t0,t1,t2,t3,t4,t5,t6,t7,t8,t9,t10,t11,t12,t13,t14,t15,tl⟩,tz⟩:=T3.out;clear x3)))
 generalize hTb:w.heap.size=Tb at *;have HTE:=hid hTb;clear hTb;clear S0 T0;have hsz:∀ {W:World},(Tb<W.heap.size/\Tb≠W.heap.size)->Tb+1<=W.heap.size:=fun h=>by omega
 go_wp2_with fail;have CL:=hid (fun W (hW:CurAt W B A n c L (k))=>side_any B A n c L k W hW hn);have HAXL:=hid (sideF_adv (L:=L) (k:=k) (by have:=HL.out;omega));obtain⟨XL,hXL⟩:∃ XL,XL=sideF L k:=⟨_,rfl⟩
 have HEXL:=hid hXL;rw[<- hXL] at hT CL HAXL;clear hXL;go_at_call 80;refine (CL.out _ S3.out.cur).mono ?_;intro e w4 h5
 cases XL with
 | fail er qe=>
  simp only[PR.bind] at hT;subst hT;obtain⟨rfl,qz,mz⟩:=h5;exact⟨rfl,rfl,_,S3.out.mv.trans H.out mz⟩
 | ok rXL kL=>
  obtain⟨v,rfl,⟨A1,n1,c1,A2,n2,c2,A3,n3,c3,rfl,sd1⟩,m5⟩:=h5;simp only[PR.bind] at hT
  try dsimp only at hT
  have hkXL:=HAXL.out _ _ rfl;have hknXL:kL<=n:=by have:=HL.out;omega
  have S4:=hid (S3.out.go H.out m5 hknXL);have T4:=hid (T3.out.mv m5 hTB);have YL:=hid (SdA.lt (SdA.mono sd1 (fun b hb=>Nat.le_trans (hsz T3.out.box.lt) hb)))
  (try clear k1 kz kl)
  have k1:=S4.out.cur.c1;have kz:=S4.out.cur.fz;have kl:=S4.out.cur.lt
  (try clear t0 t1 t2 t3 t4 t5 t6 t7 t8 t9 t10 t11 t12 t13 t14 t15 tz tl)
  obtain⟨⟨t0,t1,t2,t3,t4,t5,t6,t7,t8,t9,t10,t11,t12,t13,t14,t15,tl⟩,tz⟩:=T4.out;clear m5 sd1
  try dsimp only
  have S5:=hid (S4.out.ext ((Ext.refl _).alloc (.cells #[.int .i64 2,.string ⟨#[]⟩,.slice none 0 0,.int .i64 0,.bool rXL.st,.bool rXL.en,.slice A1 n1 c1,.slice A2 n2 c2,.slice A3 n3 c3,.int .i64 rXL.cursor,.bool false,.bool false,.slice none 0 0,.slice none 0 0,.slice none 0 0,.int .i64 0] 111)));have T5:=hid (T4.out.ext ((Ext.refl _).alloc (.cells #[.int .i64 2,.string ⟨#[]⟩,.slice none 0 0,.int .i64 0,.bool rXL.st,.bool rXL.en,.slice A1 n1 c1,.slice A2 n2 c2,.slice A3 n3 c3,.int .i64 rXL.cursor,.bool false,.bool false,.slice none 0 0,.slice none 0 0,.slice none 0 0,.int .i64 0] 111)));have P5:=hid (PtV.new w4 2 ⟨#[]⟩ none 0 0 0 rXL.st rXL.en A1 n1 c1 A2 n2 c2 A3 n3 c3 rXL.cursor false false none 0 0 none 0 0 none 0 0 0);have HCP:Hid (∀ (j:Nat) (W:World) (o:Nat) (v:Value),Cr w B A n c L j W->Cr w B A n c L j (W.setCell ⟨w4.heap.size,o,none⟩ v)):=hid (fun j W o v h=>h.other H.out S4.out.mv.size o v);have hPB:w4.heap.size≠B:=by have:=S4.out.cur.lt;omega
  have hBP:B≠w4.heap.size:=by omega
  have hTP:Tb≠w4.heap.size:=by have:=T4.out.box.lt;omega
  have hPT:w4.heap.size≠Tb:=by omega
  have HPT:Hid (Tb<w4.heap.size):=hid T4.out.box.lt.1;have YL:=hid (SdA.mono (SdA.ext YL.out ((Ext.refl _).alloc (.cells #[.int .i64 2,.string ⟨#[]⟩,.slice none 0 0,.int .i64 0,.bool rXL.st,.bool rXL.en,.slice A1 n1 c1,.slice A2 n2 c2,.slice A3 n3 c3,.int .i64 rXL.cursor,.bool false,.bool false,.slice none 0 0,.slice none 0 0,.slice none 0 0,.int .i64 0] 111))) (ok':=fun b=>Tb+1<=b/\b≠w4.heap.size) (fun b hb=>⟨hb.1,Nat.ne_of_lt hb.2⟩));have hKB:∀ b,(Tb+1<=b/\b≠w4.heap.size)->b≠B:=fun b hb=>by omega
  have hKP:∀ b,(Tb+1<=b/\b≠w4.heap.size)->b≠w4.heap.size:=fun b hb=>hb.2;go_wp2_with fail;have CA:=hid (fun W (hW:CurAt W B A n c L (kL))=>arrow_any B A n c L kL W hW);have HAXA:=hid (arrowF_adv (L:=L) (k:=kL));obtain⟨XA,hXA⟩:∃ XA,XA=arrowF L kL:=⟨_,rfl⟩
  have HEXA:=hid hXA;rw[<- hXA] at hT CA HAXA;clear hXA;go_at_call 81;refine (CA.out _ S5.out.cur).mono ?_;intro e w6 h5
  cases XA with
  | fail er qe=>
   simp only[PR.bind] at hT;subst hT;obtain⟨rfl,qz,mz⟩:=h5;exact⟨rfl,rfl,_,S5.out.mv.trans H.out mz⟩
  | ok rXA kA=>
   obtain⟨v,rfl,rfl,m5⟩:=h5;simp only[PR.bind] at hT
   try dsimp only at hT
   have hkXA:=HAXA.out _ _ rfl;have hknXA:kA<=n:=by have:=HL.out;omega
   have S6:=hid (S5.out.go H.out m5 hknXA);have T6:=hid (T5.out.mv m5 hTB);have P6:=hid (P5.out.mv m5 hPB);have YL:=hid (SdA.mvG YL.out m5 hKB);generalize hPb:w4.heap.size=Pb at *;clear hPb
   (try clear k1 kz kl)
   have k1:=S6.out.cur.c1;have kz:=S6.out.cur.fz;have kl:=S6.out.cur.lt
   (try clear t0 t1 t2 t3 t4 t5 t6 t7 t8 t9 t10 t11 t12 t13 t14 t15 tz tl)
   obtain⟨⟨t0,t1,t2,t3,t4,t5,t6,t7,t8,t9,t10,t11,t12,t13,t14,t15,tl⟩,tz⟩:=T6.out
   (try clear p0 p1 p2 p3 p4 p5 p6 p7 p8 p9 p10 p11 p12 p13 p14 p15 pz pl)
   obtain⟨⟨p0,p1,p2,p3,p4,p5,p6,p7,p8,p9,p10,p11,p12,p13,p14,p15,pl⟩,pz⟩:=P6.out;clear m5
   try dsimp only
   have HDI:=hid (arrowF_i64 HEXA.out.symm)
   try generalize (Value.agg #[.int .i64 2,.string ⟨#[]⟩,.slice none 0 0,.int .i64 0,.bool rXL.st,.bool rXL.en,.slice A1 n1 c1,.slice A2 n2 c2,.slice A3 n3 c3,.int .i64 rXL.cursor,.bool false,.bool false,.slice none 0 0,.slice none 0 0,.slice none 0 0,.int .i64 0])=G0
   try generalize (Value.agg #[.bool rXL.st,.bool rXL.en,.slice A1 n1 c1,.slice A2 n2 c2,.slice A3 n3 c3,.int .i64 rXL.cursor])=G1
   have S7:=hid (HCP.out _ _ 3 (.int .i64 rXA) S6.out);have T7:=hid (T6.out.off hTP 3 (.int .i64 rXA));have P7:=hid (P6.out.set3 rXA);have YL:=hid (SdA.offG YL.out hKP 3 (.int .i64 rXA));go_wp2_with fail;have CR:=hid (fun W (hW:CurAt W B A n c L (kA))=>side_any B A n c L kA W hW hn);have HAXR:=hid (sideF_adv (L:=L) (k:=kA) (by have:=HL.out;omega));obtain⟨XR,hXR⟩:∃ XR,XR=sideF L kA:=⟨_,rfl⟩
   have HEXR:=hid hXR;rw[<- hXR] at hT CR HAXR;clear hXR;go_at_call 80;refine (CR.out _ S7.out.cur).mono ?_;intro e w8 h5
   cases XR with
   | fail er qe=>
    simp only[PR.bind] at hT;subst hT;obtain⟨rfl,qz,mz⟩:=h5;exact⟨rfl,rfl,_,S7.out.mv.trans H.out mz⟩
   | ok rXR kR=>
    obtain⟨v,rfl,⟨A4,n4,c4,A5,n5,c5,A6,n6,c6,rfl,sd2⟩,m5⟩:=h5;simp only[PR.bind] at hT
    try dsimp only at hT
    have hkXR:=HAXR.out _ _ rfl;have hknXR:kR<=n:=by have:=HL.out;omega
    have S8:=hid (S7.out.go H.out m5 hknXR);have T8:=hid (T7.out.mv m5 hTB);have P8:=hid (P7.out.mv m5 hPB);have YL:=hid (SdA.mvG YL.out m5 hKB);have YR:=hid (SdA.mono sd2 (ok':=(fun b=>Tb+1<=b/\b≠Pb)) (fun b hb=>by have h1:=T7.out.box.lt;have h2:=P7.out.box.lt;have hb:=hb;exact⟨by omega,by omega⟩))
    (try clear k1 kz kl)
    have k1:=S8.out.cur.c1;have kz:=S8.out.cur.fz;have kl:=S8.out.cur.lt
    (try clear t0 t1 t2 t3 t4 t5 t6 t7 t8 t9 t10 t11 t12 t13 t14 t15 tz tl)
    obtain⟨⟨t0,t1,t2,t3,t4,t5,t6,t7,t8,t9,t10,t11,t12,t13,t14,t15,tl⟩,tz⟩:=T8.out
    (try clear p0 p1 p2 p3 p4 p5 p6 p7 p8 p9 p10 p11 p12 p13 p14 p15 pz pl)
    obtain⟨⟨p0,p1,p2,p3,p4,p5,p6,p7,p8,p9,p10,p11,p12,p13,p14,p15,pl⟩,pz⟩:=P8.out;clear m5 sd2
    try dsimp only
    have S9:=hid (HCP.out _ _ 10 (.bool rXR.st) S8.out);have T9:=hid (T8.out.off hTP 10 (.bool rXR.st));have P9:=hid (P8.out.set10 rXR.st);have YL:=hid (SdA.offG YL.out hKP 10 (.bool rXR.st));have YR:=hid (SdA.offG YR.out hKP 10 (.bool rXR.st));have S10:=hid (HCP.out _ _ 11 (.bool rXR.en) S9.out);have T10:=hid (T9.out.off hTP 11 (.bool rXR.en));have P10:=hid (P9.out.set11 rXR.en);have YL:=hid (SdA.offG YL.out hKP 11 (.bool rXR.en));have YR:=hid (SdA.offG YR.out hKP 11 (.bool rXR.en));have S11:=hid (HCP.out _ _ 12 (.slice A4 n4 c4) S10.out);have T11:=hid (T10.out.off hTP 12 (.slice A4 n4 c4));have P11:=hid (P10.out.set12 A4 n4 c4);have YL:=hid (SdA.offG YL.out hKP 12 (.slice A4 n4 c4));have YR:=hid (SdA.offG YR.out hKP 12 (.slice A4 n4 c4));have S12:=hid (HCP.out _ _ 13 (.slice A5 n5 c5) S11.out);have T12:=hid (T11.out.off hTP 13 (.slice A5 n5 c5));have P12:=hid (P11.out.set13 A5 n5 c5);have YL:=hid (SdA.offG YL.out hKP 13 (.slice A5 n5 c5));have YR:=hid (SdA.offG YR.out hKP 13 (.slice A5 n5 c5));have S13:=hid (HCP.out _ _ 14 (.slice A6 n6 c6) S12.out);have T13:=hid (T12.out.off hTP 14 (.slice A6 n6 c6));have P13:=hid (P12.out.set14 A6 n6 c6);have YL:=hid (SdA.offG YL.out hKP 14 (.slice A6 n6 c6));have YR:=hid (SdA.offG YR.out hKP 14 (.slice A6 n6 c6));have S14:=hid (HCP.out _ _ 15 (.int .i64 rXR.cursor) S13.out);have T14:=hid (T13.out.off hTP 15 (.int .i64 rXR.cursor));have P14:=hid (P13.out.set15 rXR.cursor);have YL:=hid (SdA.offG YL.out hKP 15 (.int .i64 rXR.cursor));have YR:=hid (SdA.offG YR.out hKP 15 (.int .i64 rXR.cursor));go_upto_region 24 with fail
    try generalize (Value.agg #[.bool rXR.st,.bool rXR.en,.slice A4 n4 c4,.slice A5 n5 c5,.slice A6 n6 c6,.int .i64 rXR.cursor])=G2
    generalize ((((((w8.setCell ⟨Pb,10,none⟩ (.bool rXR.st)).setCell ⟨Pb,11,none⟩ (.bool rXR.en)).setCell ⟨Pb,12,none⟩ (.slice A4 n4 c4)).setCell ⟨Pb,13,none⟩ (.slice A5 n5 c5)).setCell ⟨Pb,14,none⟩ (.slice A6 n6 c6)).setCell ⟨Pb,15,none⟩ (.int .i64 rXR.cursor))=w14 at *
    (try clear k1 kz kl)
    have k1:=S14.out.cur.c1;have kz:=S14.out.cur.fz;have kl:=S14.out.cur.lt
    (try clear t0 t1 t2 t3 t4 t5 t6 t7 t8 t9 t10 t11 t12 t13 t14 t15 tz tl)
    obtain⟨⟨t0,t1,t2,t3,t4,t5,t6,t7,t8,t9,t10,t11,t12,t13,t14,t15,tl⟩,tz⟩:=T14.out
    (try clear p0 p1 p2 p3 p4 p5 p6 p7 p8 p9 p10 p11 p12 p13 p14 p15 pz pl)
    obtain⟨⟨p0,p1,p2,p3,p4,p5,p6,p7,p8,p9,p10,p11,p12,p13,p14,p15,pl⟩,pz⟩:=P14.out;clear S8 T8 P8 S9 T9 P9 S10 T10 P10 S11 T11 P11 S12 T12 P12 S13 T13 P13;have CPW:=hid (partW_any (p:=⟨2,.empty,[],rXA,rXL,rXR⟩) (ok:=(fun b=>Tb+1<=b/\b≠Pb)) (A:=none) (n:=0) (c:=0) ⟨ik2,HDI.out,Nat.zero_le _,SlR.nil _ _ _ _ _ _ (by unfold maxLen;omega)⟩ YL.out YR.out);obtain⟨er,her⟩:∃ er,er=partW ⟨2,.empty,[],rXA,rXL,rXR⟩:=⟨_,rfl⟩
    rw[<- her] at hT CPW;clear her;by_cases hz:er=0
    ·rw[if_neg (by simp[hz])] at hT;subst hz;subst hT
     go_wp2_with (first
      | (go_at_call 82;((refine (CPW.out).mono ?_);rintro e w15 ⟨rfl,x15⟩;have S15:=hid (S14.out.ext x15);have T15:=hid (T14.out.ext x15);have P15:=hid (P14.out.ext x15);have YL:=hid (SdA.ext YL.out x15);have YR:=hid (SdA.ext YR.out x15);(try clear k1 kz kl);have k1:=S15.out.cur.c1;have kz:=S15.out.cur.fz;have kl:=S15.out.cur.lt;(try clear t0 t1 t2 t3 t4 t5 t6 t7 t8 t9 t10 t11 t12 t13 t14 t15 tz tl);obtain⟨⟨t0,t1,t2,t3,t4,t5,t6,t7,t8,t9,t10,t11,t12,t13,t14,t15,tl⟩,tz⟩:=T15.out;(try clear p0 p1 p2 p3 p4 p5 p6 p7 p8 p9 p10 p11 p12 p13 p14 p15 pz pl);obtain⟨⟨p0,p1,p2,p3,p4,p5,p6,p7,p8,p9,p10,p11,p12,p13,p14,p15,pl⟩,pz⟩:=P15.out;clear x15))
      | (refine wpList_storeP T15.out rfl (.tmp 2) (.tmp 111) rfl rfl rfl ?_;intro wF FF AGF SZF EXF))
     have SF:Mv B _ w wF:=EXF _ (by rw[size_set,HTE.out];exact Nat.le_refl _) S15.out.mv;have AG:Agree (fun b=>Tb+1<=b) _ wF:=AGF.mono (fun b hb=>by omega);have HM:∀ b,Tb+1<=b->w.heap.size<=b:=fun b hb=>by rw[HTE.out];omega
     have RL:=SdA.mono (SdA.keep (SdA.mono YL.out (fun b hb=>hb.1)) AG) HM;have RR:=SdA.mono (SdA.keep (SdA.mono YR.out (fun b hb=>hb.1)) AG) HM;obtain⟨⟨u0,u1,u2,u3,u4,u5,u6,u7,u8,u9,u10,u11,u12,u13,u14,u15,ul⟩,uz⟩:=FF;refine bodyPost_ret (v:=.agg #[.int .i64 2,.string ⟨#[]⟩,.slice none 0 0,.int .i64 rXA,.bool rXL.st,.bool rXL.en,.slice A1 n1 c1,.slice A2 n2 c2,.slice A3 n3 c3,.int .i64 rXL.cursor,.bool rXR.st,.bool rXR.en,.slice A4 n4 c4,.slice A5 n5 c5,.slice A6 n6 c6,.int .i64 rXR.cursor]) (by simp[results,Tryz.results47,go_sem,u0,u1,u2,u3,u4,u5,u6,u7,u8,u9,u10,u11,u12,u13,u14,u15]) rfl ?_;exact⟨_,rfl,⟨_,_,_,_,_,_,_,_,_,_,_,_,_,_,_,_,_,_,_,_,_,rfl,⟨ik2,HDI.out,Nat.zero_le _,SlR.nil _ _ _ _ _ _ (by unfold maxLen;omega)⟩,RL,RR⟩,SF⟩
    ·rw[if_pos hz] at hT;subst hT;have gz:(er != 0)=true:=by simpa using hz
     have CF:=hid (fun W=>Fail_any er k W)
     go_wp2_with (first
      | (go_at_call 82;((refine (CPW.out).mono ?_);rintro e w15 ⟨rfl,x15⟩;have S15:=hid (S14.out.ext x15);have T15:=hid (T14.out.ext x15);have P15:=hid (P14.out.ext x15);have YL:=hid (SdA.ext YL.out x15);have YR:=hid (SdA.ext YR.out x15);(try clear k1 kz kl);have k1:=S15.out.cur.c1;have kz:=S15.out.cur.fz;have kl:=S15.out.cur.lt;(try clear t0 t1 t2 t3 t4 t5 t6 t7 t8 t9 t10 t11 t12 t13 t14 t15 tz tl);obtain⟨⟨t0,t1,t2,t3,t4,t5,t6,t7,t8,t9,t10,t11,t12,t13,t14,t15,tl⟩,tz⟩:=T15.out;(try clear p0 p1 p2 p3 p4 p5 p6 p7 p8 p9 p10 p11 p12 p13 p14 p15 pz pl);obtain⟨⟨p0,p1,p2,p3,p4,p5,p6,p7,p8,p9,p10,p11,p12,p13,p14,p15,pl⟩,pz⟩:=P15.out;clear x15))
      | (go_at_call 44;((with_reducible refine (CF.out _).mono ?_);rintro e wz ⟨rfl,rfl⟩)))
     exact⟨rfl,rfl,_,S15.out.mv⟩
theorem part_any (B:Nat) (A:Option Addr) (n c:Nat) (L:List Int) (k:Nat) (w:World) (h:CurAt w B A n c L k) (hn:n<=16000) (hk:k<n) :
  Calls Tryz.prog 47 #[.pointer (some ⟨B,0,none⟩)] w fun e w'=>PRet w B (partF L k) (rPart w.heap.size) e w':=by
 by_cases h58:lookF L k=58
 ·by_cases h91:lookF L (spaceF L (k+1+1))=91
  ·exact part_colon1 B A n c L k w h hn hk h58 h91
  ·cases hp:isPass (nameB L (spaceF L (k+1+1)) (wordF L (spaceF L (k+1+1))))
   ·exact part_colon2 B A n c L k w h hn hk h58 h91 hp
   ·exact part_colon3 B A n c L k w h hn hk h58 h91 hp
 ·have n58:(lookF L k==58)=false:=by simpa using h58
  by_cases hv:lookF L k=36/\varB L k=true
  ·exact part_var B A n c L k w h hn hk n58 hv
  ·by_cases h36:lookF L k=36
   ·exact part_rule2 B A n c L k w h hn hk n58 hv h36 (by cases hb:varB L k;rfl;exact absurd ⟨h36,hb⟩ hv)
   ·exact part_rule1 B A n c L k w h hn hk n58 hv (by simpa using h36)
end Go.Proofs.YthomjcjnalfipaaGreatDoor
