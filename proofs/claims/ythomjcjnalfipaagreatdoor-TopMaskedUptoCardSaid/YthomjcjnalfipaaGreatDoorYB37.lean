/- A part of the proofs of the Top laws. -/
import Derived.Deep.RegionWith
import Derived.Deep.Cut
import Derived.Deep.CutRange
import Derived.Test.YthomjcjnalfipaaGreatDoorRows
import Derived.ProofKit
import Derived.OpenShut
import Derived.ChangeOld
import Derived.Deep.Fields
import Derived.Test.YthomjcjnalfipaaGreatDoorYB36
set_option linter.all false
set_option maxRecDepth 100000
set_option maxHeartbeats 16000000
open Go.Lib (hid)
namespace Go.Proofs.YthomjcjnalfipaaGreatDoor
open Go.RowKit
theorem part_colon1 (B:Nat) (A:Option Addr) (n c:Nat) (L:List Int) (k:Nat) (w:World) (h:CurAt w B A n c L k) (hn:n<=16000) (hk:k<n) (h58:lookF L k=58) (hC91:lookF L (spaceF L (k+1+1))=91) :
  Calls Tryz.prog 47 #[.pointer (some ⟨B,0,none⟩)] w fun e w'=>PRet w B (partF L k) (rPart w.heap.size) e w':=by
 have H:=hid h;have HL:=hid h.row.len;have hnb:=h.nb;have hle:=h.le;have hB:=h.lt.1;obtain⟨T,hT⟩:∃ T,partF L k=T:=⟨_,rfl⟩
 rw[hT];unfold partF at hT;have CP:=hid (fun W (hW:CurAt W B A n c L (k))=>Peek_any B A n c L (k) W hW);have wk:IntKind.i64.wrap ((k:Int)+1)=(k:Int)+1:=IntWalk.i64_in _ (by omega);have T0:=hid (PtV.new w 0 ⟨#[]⟩ none 0 0 0 false false none 0 0 none 0 0 none 0 0 0 false false none 0 0 none 0 0 none 0 0 0);have S0:=hid ((Cr.refl h).ext ((Ext.refl w).alloc (.cells #[.int .i64 0,.string ⟨#[]⟩,.slice none 0 0,.int .i64 0,.bool false,.bool false,.slice none 0 0,.slice none 0 0,.slice none 0 0,.int .i64 0,.bool false,.bool false,.slice none 0 0,.slice none 0 0,.slice none 0 0,.int .i64 0] 111)));have hTB:w.heap.size≠B:=by omega
 have hBT:B≠w.heap.size:=by omega
 have hBb:B<w.heap.size+1:=by omega
 clear h;have HC91:=hid hC91;clear hC91;rw[if_pos h58] at hT;rw[h58] at CP;clear h58;go_enter Tryz.func47,Tryz.ntmps47
 go_wp2_with (first
  | (go_at_call 46;((with_reducible refine (CP.out _ S0.out.cur).mono ?_);rintro e w1 ⟨rfl,x1⟩;have S1:=hid (S0.out.ext x1);have T1:=hid (T0.out.ext x1);(try clear k1 kz kl);have k1:=S1.out.cur.c1;have kz:=S1.out.cur.fz;have kl:=S1.out.cur.lt;(try clear t0 t1 t2 t3 t4 t5 t6 t7 t8 t9 t10 t11 t12 t13 t14 t15 tz tl);obtain⟨⟨t0,t1,t2,t3,t4,t5,t6,t7,t8,t9,t10,t11,t12,t13,t14,t15,tl⟩,tz⟩:=T1.out;clear x1;have S2:=hid (S1.out.step H.out (x:=(k:Int)+1) (i:=k+1) (by omega) (by omega));have T2:=hid (T1.out.off hTB 1 (.int .i64 ((k:Int)+1))))))
 generalize hTb:w.heap.size=Tb at *;have HTE:=hid hTb;clear hTb;clear S0 T0;have hsz:∀ {W:World},(Tb<W.heap.size/\Tb≠W.heap.size)->Tb+1<=W.heap.size:=fun h=>by omega
 have CN:=hid (fun W (hW:CurAt W B A n c L (k+1))=>Need_any B A n c L (k+1) 58 W hW (by omega));have HAXN:=hid (needF_adv (L:=L) (k:=k+1) (r:=58) (by omega));obtain⟨XN,hXN⟩:∃ XN,XN=needF L 58 (k+1):=⟨_,rfl⟩
 have HEXN:=hid hXN;rw[<- hXN] at hT CN HAXN;clear hXN;go_at_call 48;refine (CN.out _ S2.out.cur).mono ?_;intro e w3 h5
 cases XN with
 | fail er qe=>
  simp only[PR.bind] at hT;subst hT;obtain⟨rfl,qz,mz⟩:=h5;exact⟨rfl,rfl,_,S2.out.mv.trans H.out mz⟩
 | ok rXN i1=>
  obtain⟨v,rfl,rfl,m5⟩:=h5;simp only[PR.bind] at hT
  try dsimp only at hT
  have hkXN:=HAXN.out _ _ rfl;have hknXN:i1<=n:=by have:=HL.out;omega
  have S3:=hid (S2.out.go H.out m5 hknXN);have T3:=hid (T2.out.mv m5 hTB);have hi1:=needF_pos HEXN.out.symm;subst hi1
  (try clear k1 kz kl)
  have k1:=S3.out.cur.c1;have kz:=S3.out.cur.fz;have kl:=S3.out.cur.lt
  (try clear t0 t1 t2 t3 t4 t5 t6 t7 t8 t9 t10 t11 t12 t13 t14 t15 tz tl)
  obtain⟨⟨t0,t1,t2,t3,t4,t5,t6,t7,t8,t9,t10,t11,t12,t13,t14,t15,tl⟩,tz⟩:=T3.out;clear m5
  try dsimp only
  have hsj1:spaceF L (k+1+1)<=n:=by have:=spaceF_le (L:=L) (k:=k+1+1) (by have:=HL.out;omega);have:=HL.out;omega
  have CS1:=hid (fun W (hW:CurAt W B A n c L (k+1+1))=>space_any B A n c L (k+1+1) W hW);generalize spaceF L (k+1+1)=j1 at *
  go_wp2_with (first
   | (go_at_call 45;((with_reducible refine (CS1.out _ S3.out.cur).mono ?_);rintro e w4 ⟨rfl,m4⟩;have S4:=hid (S3.out.go H.out m4 hsj1);have T4:=hid (T3.out.mv m4 hTB);(try clear k1 kz kl);have k1:=S4.out.cur.c1;have kz:=S4.out.cur.fz;have kl:=S4.out.cur.lt;(try clear t0 t1 t2 t3 t4 t5 t6 t7 t8 t9 t10 t11 t12 t13 t14 t15 tz tl);obtain⟨⟨t0,t1,t2,t3,t4,t5,t6,t7,t8,t9,t10,t11,t12,t13,t14,t15,tl⟩,tz⟩:=T4.out;clear m4)))
  have CP1:=hid (fun W (hW:CurAt W B A n c L (j1))=>Peek_any B A n c L (j1) W hW);by_cases h91:lookF L j1=91
  ·rw[if_pos h91] at hT;rw[h91] at CP1;clear h91
   go_wp2_with (first
    | (go_at_call 46;((with_reducible refine (CP1.out _ S4.out.cur).mono ?_);rintro e w5 ⟨rfl,x5⟩;have S5:=hid (S4.out.ext x5);have T5:=hid (T4.out.ext x5);(try clear k1 kz kl);have k1:=S5.out.cur.c1;have kz:=S5.out.cur.fz;have kl:=S5.out.cur.lt;(try clear t0 t1 t2 t3 t4 t5 t6 t7 t8 t9 t10 t11 t12 t13 t14 t15 tz tl);obtain⟨⟨t0,t1,t2,t3,t4,t5,t6,t7,t8,t9,t10,t11,t12,t13,t14,t15,tl⟩,tz⟩:=T5.out;clear x5)))
   have CX:=hid (fun W (hW:CurAt W B A n c L (j1))=>setC_any 20 1 (by omega) (by omega) B A n c L j1 W hW);have HAXS:=hid (setF_adv 20 j1 (L:=L));obtain⟨XS,hXS⟩:∃ XS,XS=setF L 20 j1:=⟨_,rfl⟩
   have HEXS:=hid hXS;rw[<- hXS] at hT CX HAXS;clear hXS;go_at_call 76;refine (CX.out _ S5.out.cur).mono ?_;intro e w6 h5
   cases XS with
   | fail er qe=>
    simp only[PR.bind] at hT;subst hT;obtain⟨rfl,qz,mz⟩:=h5;exact⟨rfl,rfl,_,S5.out.mv.trans H.out mz⟩
   | ok rXS i2=>
    obtain⟨v,rfl,h6,m5⟩:=h5;simp only[PR.bind] at hT
    try dsimp only at hT
    have hkXS:=HAXS.out _ _ rfl;have hknXS:i2<=n:=by have:=HL.out;omega
    have S6:=hid (S5.out.go H.out m5 hknXS);have T6:=hid (T5.out.mv m5 hTB);obtain⟨A5,n5,c5,rfl,s5⟩:=h6;have Y5:=hid (SlR.mono s5 (fun _ _ h=>h) (fun b hb=>Nat.le_trans (hsz T5.out.box.lt) hb))
    (try clear k1 kz kl)
    have k1:=S6.out.cur.c1;have kz:=S6.out.cur.fz;have kl:=S6.out.cur.lt
    (try clear t0 t1 t2 t3 t4 t5 t6 t7 t8 t9 t10 t11 t12 t13 t14 t15 tz tl)
    obtain⟨⟨t0,t1,t2,t3,t4,t5,t6,t7,t8,t9,t10,t11,t12,t13,t14,t15,tl⟩,tz⟩:=T6.out;clear m5 s5
    try dsimp only
    subst hT
    go_wp2_with (first
     | (refine wpList_storeP T6.out rfl (.tmp 2) (.tmp 38) rfl rfl rfl ?_;intro wF FF AGF SZF EXF))
    have SF:Mv B _ w wF:=EXF _ (by rw[size_set,HTE.out];exact Nat.le_refl _) S6.out.mv;have AG:Agree (fun b=>Tb+1<=b) _ wF:=AGF.mono (fun b hb=>by omega);have HM:∀ b,Tb+1<=b->w.heap.size<=b:=fun b hb=>by rw[HTE.out];omega
    have RL:=SdA.mono (SdA.keep (sd0 _ _) AG) HM;have RR:=SdA.mono (SdA.keep (sd0 _ _) AG) HM;have RS:=SlR.mono (SlR.keep (keep_span _) Y5.out AG) (fun _ _ h=>h) HM;obtain⟨⟨u0,u1,u2,u3,u4,u5,u6,u7,u8,u9,u10,u11,u12,u13,u14,u15,ul⟩,uz⟩:=FF;refine bodyPost_ret (v:=.agg #[.int .i64 3,.string ⟨#[]⟩,.slice A5 n5 c5,.int .i64 0,.bool false,.bool false,.slice none 0 0,.slice none 0 0,.slice none 0 0,.int .i64 0,.bool false,.bool false,.slice none 0 0,.slice none 0 0,.slice none 0 0,.int .i64 0]) (by simp[results,Tryz.results47,go_sem,u0,u1,u2,u3,u4,u5,u6,u7,u8,u9,u10,u11,u12,u13,u14,u15]) rfl ?_;exact⟨_,rfl,⟨_,_,_,_,_,_,_,_,_,_,_,_,_,_,_,_,_,_,_,_,_,rfl,⟨ik3,ik0,Nat.zero_le _,RS⟩,RL,RR⟩,SF⟩
  ·exact absurd HC91.out h91
theorem part_colon2 (B:Nat) (A:Option Addr) (n c:Nat) (L:List Int) (k:Nat) (w:World) (h:CurAt w B A n c L k) (hn:n<=16000) (hk:k<n) (h58:lookF L k=58) (hC91:¬ lookF L (spaceF L (k+1+1))=91) (hP:isPass (nameB L (spaceF L (k+1+1)) (wordF L (spaceF L (k+1+1))))=false) :
  Calls Tryz.prog 47 #[.pointer (some ⟨B,0,none⟩)] w fun e w'=>PRet w B (partF L k) (rPart w.heap.size) e w':=by
 have H:=hid h;have HL:=hid h.row.len;have hnb:=h.nb;have hle:=h.le;have hB:=h.lt.1;obtain⟨T,hT⟩:∃ T,partF L k=T:=⟨_,rfl⟩
 rw[hT];unfold partF at hT;have CP:=hid (fun W (hW:CurAt W B A n c L (k))=>Peek_any B A n c L (k) W hW);have wk:IntKind.i64.wrap ((k:Int)+1)=(k:Int)+1:=IntWalk.i64_in _ (by omega);have T0:=hid (PtV.new w 0 ⟨#[]⟩ none 0 0 0 false false none 0 0 none 0 0 none 0 0 0 false false none 0 0 none 0 0 none 0 0 0);have S0:=hid ((Cr.refl h).ext ((Ext.refl w).alloc (.cells #[.int .i64 0,.string ⟨#[]⟩,.slice none 0 0,.int .i64 0,.bool false,.bool false,.slice none 0 0,.slice none 0 0,.slice none 0 0,.int .i64 0,.bool false,.bool false,.slice none 0 0,.slice none 0 0,.slice none 0 0,.int .i64 0] 111)));have hTB:w.heap.size≠B:=by omega
 have hBT:B≠w.heap.size:=by omega
 have hBb:B<w.heap.size+1:=by omega
 clear h;have HC91:=hid hC91;clear hC91;have HPP:=hid hP;clear hP;rw[if_pos h58] at hT;rw[h58] at CP;clear h58;go_enter Tryz.func47,Tryz.ntmps47
 go_wp2_with (first
  | (go_at_call 46;((with_reducible refine (CP.out _ S0.out.cur).mono ?_);rintro e w1 ⟨rfl,x1⟩;have S1:=hid (S0.out.ext x1);have T1:=hid (T0.out.ext x1);(try clear k1 kz kl);have k1:=S1.out.cur.c1;have kz:=S1.out.cur.fz;have kl:=S1.out.cur.lt;(try clear t0 t1 t2 t3 t4 t5 t6 t7 t8 t9 t10 t11 t12 t13 t14 t15 tz tl);obtain⟨⟨t0,t1,t2,t3,t4,t5,t6,t7,t8,t9,t10,t11,t12,t13,t14,t15,tl⟩,tz⟩:=T1.out;clear x1;have S2:=hid (S1.out.step H.out (x:=(k:Int)+1) (i:=k+1) (by omega) (by omega));have T2:=hid (T1.out.off hTB 1 (.int .i64 ((k:Int)+1))))))
 generalize hTb:w.heap.size=Tb at *;have HTE:=hid hTb;clear hTb;clear S0 T0;have hsz:∀ {W:World},(Tb<W.heap.size/\Tb≠W.heap.size)->Tb+1<=W.heap.size:=fun h=>by omega
 have CN:=hid (fun W (hW:CurAt W B A n c L (k+1))=>Need_any B A n c L (k+1) 58 W hW (by omega));have HAXN:=hid (needF_adv (L:=L) (k:=k+1) (r:=58) (by omega));obtain⟨XN,hXN⟩:∃ XN,XN=needF L 58 (k+1):=⟨_,rfl⟩
 have HEXN:=hid hXN;rw[<- hXN] at hT CN HAXN;clear hXN;go_at_call 48;refine (CN.out _ S2.out.cur).mono ?_;intro e w3 h5
 cases XN with
 | fail er qe=>
  simp only[PR.bind] at hT;subst hT;obtain⟨rfl,qz,mz⟩:=h5;exact⟨rfl,rfl,_,S2.out.mv.trans H.out mz⟩
 | ok rXN i1=>
  obtain⟨v,rfl,rfl,m5⟩:=h5;simp only[PR.bind] at hT
  try dsimp only at hT
  have hkXN:=HAXN.out _ _ rfl;have hknXN:i1<=n:=by have:=HL.out;omega
  have S3:=hid (S2.out.go H.out m5 hknXN);have T3:=hid (T2.out.mv m5 hTB);have hi1:=needF_pos HEXN.out.symm;subst hi1
  (try clear k1 kz kl)
  have k1:=S3.out.cur.c1;have kz:=S3.out.cur.fz;have kl:=S3.out.cur.lt
  (try clear t0 t1 t2 t3 t4 t5 t6 t7 t8 t9 t10 t11 t12 t13 t14 t15 tz tl)
  obtain⟨⟨t0,t1,t2,t3,t4,t5,t6,t7,t8,t9,t10,t11,t12,t13,t14,t15,tl⟩,tz⟩:=T3.out;clear m5
  try dsimp only
  have hsj1:spaceF L (k+1+1)<=n:=by have:=spaceF_le (L:=L) (k:=k+1+1) (by have:=HL.out;omega);have:=HL.out;omega
  have CS1:=hid (fun W (hW:CurAt W B A n c L (k+1+1))=>space_any B A n c L (k+1+1) W hW);generalize spaceF L (k+1+1)=j1 at *
  go_wp2_with (first
   | (go_at_call 45;((with_reducible refine (CS1.out _ S3.out.cur).mono ?_);rintro e w4 ⟨rfl,m4⟩;have S4:=hid (S3.out.go H.out m4 hsj1);have T4:=hid (T3.out.mv m4 hTB);(try clear k1 kz kl);have k1:=S4.out.cur.c1;have kz:=S4.out.cur.fz;have kl:=S4.out.cur.lt;(try clear t0 t1 t2 t3 t4 t5 t6 t7 t8 t9 t10 t11 t12 t13 t14 t15 tz tl);obtain⟨⟨t0,t1,t2,t3,t4,t5,t6,t7,t8,t9,t10,t11,t12,t13,t14,t15,tl⟩,tz⟩:=T4.out;clear m4)))
  have CP1:=hid (fun W (hW:CurAt W B A n c L (j1))=>Peek_any B A n c L (j1) W hW);by_cases h91:lookF L j1=91
  ·exact absurd h91 HC91.out
  ·rw[if_neg h91] at hT;have n91:(lookF L j1==91)=false:=by simpa using h91
   clear h91;have hw:wordF L j1<=n:=by have:=wordF_le (L:=L) (k:=j1) (by have:=HL.out;omega);have:=HL.out;omega
   have CW:=hid (fun W (hW:CurAt W B A n c L j1)=>word_any B A n c L j1 W hW);have HNS:Hid ((nameB L j1 (wordF L j1)).size<=maxLen):=hid (by have:=nameB_size (L:=L) (a:=j1) (b:=wordF L j1) (by have:=HL.out;omega);unfold maxLen;omega);generalize lookF L j1=r1 at *;generalize nameB L j1 (wordF L j1)=nm at *;generalize wordF L j1=j2 at *;have HI:=hid (isPass_any nm)
   go_wp2_with (first
    | (go_at_call 46;((with_reducible refine (CP1.out _ S4.out.cur).mono ?_);rintro e w5 ⟨rfl,x5⟩;have S5:=hid (S4.out.ext x5);have T5:=hid (T4.out.ext x5);(try clear k1 kz kl);have k1:=S5.out.cur.c1;have kz:=S5.out.cur.fz;have kl:=S5.out.cur.lt;(try clear t0 t1 t2 t3 t4 t5 t6 t7 t8 t9 t10 t11 t12 t13 t14 t15 tz tl);obtain⟨⟨t0,t1,t2,t3,t4,t5,t6,t7,t8,t9,t10,t11,t12,t13,t14,t15,tl⟩,tz⟩:=T5.out;clear x5))
    | (go_at_call 77;((with_reducible refine (CW.out _ S5.out.cur).mono ?_);rintro e w6 ⟨rfl,m6⟩;have S6:=hid (S5.out.go H.out m6 hw);have T6:=hid (T5.out.mv m6 hTB);(try clear k1 kz kl);have k1:=S6.out.cur.c1;have kz:=S6.out.cur.fz;have kl:=S6.out.cur.lt;(try clear t0 t1 t2 t3 t4 t5 t6 t7 t8 t9 t10 t11 t12 t13 t14 t15 tz tl);obtain⟨⟨t0,t1,t2,t3,t4,t5,t6,t7,t8,t9,t10,t11,t12,t13,t14,t15,tl⟩,tz⟩:=T6.out;clear m6)))
   cases hb:isPass nm
   ·have HV:=hid hb;rw[if_neg (by simp[hb])] at hT;subst hT;clear hb;have CF:=hid (fun W=>Fail_any 7 j1 W);go_upto_region 9 with fail;go_cut [51] from 47 to 51 (fun v51 wx=>v51=.bool true/\Ext (w6.alloc (.cells #[.int .i64 4,.string nm,.slice none 0 0,.int .i64 0,.bool false,.bool false,.slice none 0 0,.slice none 0 0,.slice none 0 0,.int .i64 0,.bool false,.bool false,.slice none 0 0,.slice none 0 0,.slice none 0 0,.int .i64 0] 111)) wx)
    case first=>
     go_region_with (first
      | (go_at_call 52;((refine (Passes_any _).mono ?_);rintro e w8 ⟨A9,c9,rfl,s9,x8⟩;have X8:=hid (show Ext (w6.alloc (.cells #[.int .i64 4,.string nm,.slice none 0 0,.int .i64 0,.bool false,.bool false,.slice none 0 0,.slice none 0 0,.slice none 0 0,.int .i64 0,.bool false,.bool false,.slice none 0 0,.slice none 0 0,.slice none 0 0,.int .i64 0] 111)) w8 from (by first | exact x8 | exact (Ext.refl _).drew.trans x8));have PX:=(PtBox.new w6 4 nm none 0 0 0 false false none 0 0 none 0 0 none 0 0 0 false false none 0 0 none 0 0 none 0 0 0).ext X8.out;have p1:=PX.h1;have pl:=PX.lt;have HC:=hid (ContainsS_any A9 4 c9 passS nm w8 s9);rw[HI.out,HV.out] at HC;clear s9 x8 PX))
      | (go_at_call 51;((refine (HC.out).mono ?_);rintro e w9 ⟨rfl,rfl⟩)))
     all_goals (go_wp2_with fail;go_meet;exact⟨rfl,X8.out⟩)
    case rest=>
     obtain⟨rfl,hcx⟩:=hcut;have S8:=hid (S6.out.ext (((Ext.refl _).alloc _).trans hcx));have T8:=hid (T6.out.ext (((Ext.refl _).alloc _).trans hcx));have PX:=(PtBox.new w6 4 nm none 0 0 0 false false none 0 0 none 0 0 none 0 0 0 false false none 0 0 none 0 0 none 0 0 0).ext hcx;obtain⟨p0,p1,p2,p3,p4,p5,p6,p7,p8,p9,p10,p11,p12,p13,p14,p15,pl⟩:=PX
     (try clear k1 kz kl)
     have k1:=S8.out.cur.c1;have kz:=S8.out.cur.fz;have kl:=S8.out.cur.lt
     (try clear t0 t1 t2 t3 t4 t5 t6 t7 t8 t9 t10 t11 t12 t13 t14 t15 tz tl)
     obtain⟨⟨t0,t1,t2,t3,t4,t5,t6,t7,t8,t9,t10,t11,t12,t13,t14,t15,tl⟩,tz⟩:=T8.out
     go_wp2_with (first
      | (go_at_call 44;((with_reducible refine (CF.out _).mono ?_);rintro e wz ⟨rfl,rfl⟩)))
     exact⟨rfl,rfl,_,S8.out.mv⟩
   ·rw[HPP.out] at hb;cases hb
theorem part_colon3 (B:Nat) (A:Option Addr) (n c:Nat) (L:List Int) (k:Nat) (w:World) (h:CurAt w B A n c L k) (hn:n<=16000) (hk:k<n) (h58:lookF L k=58) (hC91:¬ lookF L (spaceF L (k+1+1))=91) (hP:isPass (nameB L (spaceF L (k+1+1)) (wordF L (spaceF L (k+1+1))))=true) :
  Calls Tryz.prog 47 #[.pointer (some ⟨B,0,none⟩)] w fun e w'=>PRet w B (partF L k) (rPart w.heap.size) e w':=by
 have H:=hid h;have HL:=hid h.row.len;have hnb:=h.nb;have hle:=h.le;have hB:=h.lt.1;obtain⟨T,hT⟩:∃ T,partF L k=T:=⟨_,rfl⟩
 rw[hT];unfold partF at hT;have CP:=hid (fun W (hW:CurAt W B A n c L (k))=>Peek_any B A n c L (k) W hW);have wk:IntKind.i64.wrap ((k:Int)+1)=(k:Int)+1:=IntWalk.i64_in _ (by omega);have T0:=hid (PtV.new w 0 ⟨#[]⟩ none 0 0 0 false false none 0 0 none 0 0 none 0 0 0 false false none 0 0 none 0 0 none 0 0 0);have S0:=hid ((Cr.refl h).ext ((Ext.refl w).alloc (.cells #[.int .i64 0,.string ⟨#[]⟩,.slice none 0 0,.int .i64 0,.bool false,.bool false,.slice none 0 0,.slice none 0 0,.slice none 0 0,.int .i64 0,.bool false,.bool false,.slice none 0 0,.slice none 0 0,.slice none 0 0,.int .i64 0] 111)));have hTB:w.heap.size≠B:=by omega
 have hBT:B≠w.heap.size:=by omega
 have hBb:B<w.heap.size+1:=by omega
 clear h;have HC91:=hid hC91;clear hC91;have HPP:=hid hP;clear hP;rw[if_pos h58] at hT;rw[h58] at CP;clear h58;go_enter Tryz.func47,Tryz.ntmps47
 go_wp2_with (first
  | (go_at_call 46;((with_reducible refine (CP.out _ S0.out.cur).mono ?_);rintro e w1 ⟨rfl,x1⟩;have S1:=hid (S0.out.ext x1);have T1:=hid (T0.out.ext x1);(try clear k1 kz kl);have k1:=S1.out.cur.c1;have kz:=S1.out.cur.fz;have kl:=S1.out.cur.lt;(try clear t0 t1 t2 t3 t4 t5 t6 t7 t8 t9 t10 t11 t12 t13 t14 t15 tz tl);obtain⟨⟨t0,t1,t2,t3,t4,t5,t6,t7,t8,t9,t10,t11,t12,t13,t14,t15,tl⟩,tz⟩:=T1.out;clear x1;have S2:=hid (S1.out.step H.out (x:=(k:Int)+1) (i:=k+1) (by omega) (by omega));have T2:=hid (T1.out.off hTB 1 (.int .i64 ((k:Int)+1))))))
 generalize hTb:w.heap.size=Tb at *;have HTE:=hid hTb;clear hTb;clear S0 T0;have hsz:∀ {W:World},(Tb<W.heap.size/\Tb≠W.heap.size)->Tb+1<=W.heap.size:=fun h=>by omega
 have CN:=hid (fun W (hW:CurAt W B A n c L (k+1))=>Need_any B A n c L (k+1) 58 W hW (by omega));have HAXN:=hid (needF_adv (L:=L) (k:=k+1) (r:=58) (by omega));obtain⟨XN,hXN⟩:∃ XN,XN=needF L 58 (k+1):=⟨_,rfl⟩
 have HEXN:=hid hXN;rw[<- hXN] at hT CN HAXN;clear hXN;go_at_call 48;refine (CN.out _ S2.out.cur).mono ?_;intro e w3 h5
 cases XN with
 | fail er qe=>
  simp only[PR.bind] at hT;subst hT;obtain⟨rfl,qz,mz⟩:=h5;exact⟨rfl,rfl,_,S2.out.mv.trans H.out mz⟩
 | ok rXN i1=>
  obtain⟨v,rfl,rfl,m5⟩:=h5;simp only[PR.bind] at hT
  try dsimp only at hT
  have hkXN:=HAXN.out _ _ rfl;have hknXN:i1<=n:=by have:=HL.out;omega
  have S3:=hid (S2.out.go H.out m5 hknXN);have T3:=hid (T2.out.mv m5 hTB);have hi1:=needF_pos HEXN.out.symm;subst hi1
  (try clear k1 kz kl)
  have k1:=S3.out.cur.c1;have kz:=S3.out.cur.fz;have kl:=S3.out.cur.lt
  (try clear t0 t1 t2 t3 t4 t5 t6 t7 t8 t9 t10 t11 t12 t13 t14 t15 tz tl)
  obtain⟨⟨t0,t1,t2,t3,t4,t5,t6,t7,t8,t9,t10,t11,t12,t13,t14,t15,tl⟩,tz⟩:=T3.out;clear m5
  try dsimp only
  have hsj1:spaceF L (k+1+1)<=n:=by have:=spaceF_le (L:=L) (k:=k+1+1) (by have:=HL.out;omega);have:=HL.out;omega
  have CS1:=hid (fun W (hW:CurAt W B A n c L (k+1+1))=>space_any B A n c L (k+1+1) W hW);generalize spaceF L (k+1+1)=j1 at *
  go_wp2_with (first
   | (go_at_call 45;((with_reducible refine (CS1.out _ S3.out.cur).mono ?_);rintro e w4 ⟨rfl,m4⟩;have S4:=hid (S3.out.go H.out m4 hsj1);have T4:=hid (T3.out.mv m4 hTB);(try clear k1 kz kl);have k1:=S4.out.cur.c1;have kz:=S4.out.cur.fz;have kl:=S4.out.cur.lt;(try clear t0 t1 t2 t3 t4 t5 t6 t7 t8 t9 t10 t11 t12 t13 t14 t15 tz tl);obtain⟨⟨t0,t1,t2,t3,t4,t5,t6,t7,t8,t9,t10,t11,t12,t13,t14,t15,tl⟩,tz⟩:=T4.out;clear m4)))
  have CP1:=hid (fun W (hW:CurAt W B A n c L (j1))=>Peek_any B A n c L (j1) W hW);by_cases h91:lookF L j1=91
  ·exact absurd h91 HC91.out
  ·rw[if_neg h91] at hT;have n91:(lookF L j1==91)=false:=by simpa using h91
   clear h91;have hw:wordF L j1<=n:=by have:=wordF_le (L:=L) (k:=j1) (by have:=HL.out;omega);have:=HL.out;omega
   have CW:=hid (fun W (hW:CurAt W B A n c L j1)=>word_any B A n c L j1 W hW);have HNS:Hid ((nameB L j1 (wordF L j1)).size<=maxLen):=hid (by have:=nameB_size (L:=L) (a:=j1) (b:=wordF L j1) (by have:=HL.out;omega);unfold maxLen;omega);generalize lookF L j1=r1 at *;generalize nameB L j1 (wordF L j1)=nm at *;generalize wordF L j1=j2 at *;have HI:=hid (isPass_any nm)
   go_wp2_with (first
    | (go_at_call 46;((with_reducible refine (CP1.out _ S4.out.cur).mono ?_);rintro e w5 ⟨rfl,x5⟩;have S5:=hid (S4.out.ext x5);have T5:=hid (T4.out.ext x5);(try clear k1 kz kl);have k1:=S5.out.cur.c1;have kz:=S5.out.cur.fz;have kl:=S5.out.cur.lt;(try clear t0 t1 t2 t3 t4 t5 t6 t7 t8 t9 t10 t11 t12 t13 t14 t15 tz tl);obtain⟨⟨t0,t1,t2,t3,t4,t5,t6,t7,t8,t9,t10,t11,t12,t13,t14,t15,tl⟩,tz⟩:=T5.out;clear x5))
    | (go_at_call 77;((with_reducible refine (CW.out _ S5.out.cur).mono ?_);rintro e w6 ⟨rfl,m6⟩;have S6:=hid (S5.out.go H.out m6 hw);have T6:=hid (T5.out.mv m6 hTB);(try clear k1 kz kl);have k1:=S6.out.cur.c1;have kz:=S6.out.cur.fz;have kl:=S6.out.cur.lt;(try clear t0 t1 t2 t3 t4 t5 t6 t7 t8 t9 t10 t11 t12 t13 t14 t15 tz tl);obtain⟨⟨t0,t1,t2,t3,t4,t5,t6,t7,t8,t9,t10,t11,t12,t13,t14,t15,tl⟩,tz⟩:=T6.out;clear m6)))
   cases hb:isPass nm
   ·rw[HPP.out] at hb;cases hb
   ·have HV:=hid hb;rw[if_pos hb] at hT;subst hT;clear hb;go_upto_region 9 with fail;go_cut [51] from 47 to 51 (fun v51 wx=>v51=.bool false/\Ext (w6.alloc (.cells #[.int .i64 4,.string nm,.slice none 0 0,.int .i64 0,.bool false,.bool false,.slice none 0 0,.slice none 0 0,.slice none 0 0,.int .i64 0,.bool false,.bool false,.slice none 0 0,.slice none 0 0,.slice none 0 0,.int .i64 0] 111)) wx)
    case first=>
     go_region_with (first
      | (go_at_call 52;((refine (Passes_any _).mono ?_);rintro e w8 ⟨A9,c9,rfl,s9,x8⟩;have X8:=hid (show Ext (w6.alloc (.cells #[.int .i64 4,.string nm,.slice none 0 0,.int .i64 0,.bool false,.bool false,.slice none 0 0,.slice none 0 0,.slice none 0 0,.int .i64 0,.bool false,.bool false,.slice none 0 0,.slice none 0 0,.slice none 0 0,.int .i64 0] 111)) w8 from (by first | exact x8 | exact (Ext.refl _).drew.trans x8));have PX:=(PtBox.new w6 4 nm none 0 0 0 false false none 0 0 none 0 0 none 0 0 0 false false none 0 0 none 0 0 none 0 0 0).ext X8.out;have p1:=PX.h1;have pl:=PX.lt;have HC:=hid (ContainsS_any A9 4 c9 passS nm w8 s9);rw[HI.out,HV.out] at HC;clear s9 x8 PX))
      | (go_at_call 51;((refine (HC.out).mono ?_);rintro e w9 ⟨rfl,rfl⟩)))
     all_goals (go_wp2_with fail;go_meet;exact⟨rfl,X8.out⟩)
    case rest=>
     obtain⟨rfl,hcx⟩:=hcut;have S8:=hid (S6.out.ext (((Ext.refl _).alloc _).trans hcx));have T8:=hid (T6.out.ext (((Ext.refl _).alloc _).trans hcx));have PX:=(PtBox.new w6 4 nm none 0 0 0 false false none 0 0 none 0 0 none 0 0 0 false false none 0 0 none 0 0 none 0 0 0).ext hcx;obtain⟨p0,p1,p2,p3,p4,p5,p6,p7,p8,p9,p10,p11,p12,p13,p14,p15,pl⟩:=PX
     (try clear k1 kz kl)
     have k1:=S8.out.cur.c1;have kz:=S8.out.cur.fz;have kl:=S8.out.cur.lt
     (try clear t0 t1 t2 t3 t4 t5 t6 t7 t8 t9 t10 t11 t12 t13 t14 t15 tz tl)
     obtain⟨⟨t0,t1,t2,t3,t4,t5,t6,t7,t8,t9,t10,t11,t12,t13,t14,t15,tl⟩,tz⟩:=T8.out
     go_wp2_with (first
      | (refine wpList_storeP T8.out rfl (.tmp 2) (.tmp 54) rfl rfl rfl ?_;intro wF FF AGF SZF EXF))
     have SF:Mv B _ w wF:=EXF _ (by rw[size_set,HTE.out];exact Nat.le_refl _) S8.out.mv;have AG:Agree (fun b=>Tb+1<=b) _ wF:=AGF.mono (fun b hb=>by omega);have HM:∀ b,Tb+1<=b->w.heap.size<=b:=fun b hb=>by rw[HTE.out];omega
     have RL:=SdA.mono (SdA.keep (sd0 _ _) AG) HM;have RR:=SdA.mono (SdA.keep (sd0 _ _) AG) HM;obtain⟨⟨u0,u1,u2,u3,u4,u5,u6,u7,u8,u9,u10,u11,u12,u13,u14,u15,ul⟩,uz⟩:=FF;refine bodyPost_ret (v:=.agg #[.int .i64 4,.string nm,.slice none 0 0,.int .i64 0,.bool false,.bool false,.slice none 0 0,.slice none 0 0,.slice none 0 0,.int .i64 0,.bool false,.bool false,.slice none 0 0,.slice none 0 0,.slice none 0 0,.int .i64 0]) (by simp[results,Tryz.results47,go_sem,u0,u1,u2,u3,u4,u5,u6,u7,u8,u9,u10,u11,u12,u13,u14,u15]) rfl ?_;exact⟨_,rfl,⟨_,_,_,_,_,_,_,_,_,_,_,_,_,_,_,_,_,_,_,_,_,rfl,⟨ik4,ik0,HNS.out,SlR.nil _ _ _ _ _ _ (by unfold maxLen;omega)⟩,RL,RR⟩,SF⟩
theorem part_var (B:Nat) (A:Option Addr) (n c:Nat) (L:List Int) (k:Nat) (w:World) (h:CurAt w B A n c L k) (hn:n<=16000) (hk:k<n) (n58:(lookF L k==58)=false) (hv:lookF L k=36/\varB L k=true) :
  Calls Tryz.prog 47 #[.pointer (some ⟨B,0,none⟩)] w fun e w'=>PRet w B (partF L k) (rPart w.heap.size) e w':=by
 have H:=hid h;have HL:=hid h.row.len;have hnb:=h.nb;have hle:=h.le;have hB:=h.lt.1;obtain⟨T,hT⟩:∃ T,partF L k=T:=⟨_,rfl⟩
 rw[hT];unfold partF at hT;have CP:=hid (fun W (hW:CurAt W B A n c L (k))=>Peek_any B A n c L (k) W hW);have wk:IntKind.i64.wrap ((k:Int)+1)=(k:Int)+1:=IntWalk.i64_in _ (by omega);have T0:=hid (PtV.new w 0 ⟨#[]⟩ none 0 0 0 false false none 0 0 none 0 0 none 0 0 0 false false none 0 0 none 0 0 none 0 0 0);have S0:=hid ((Cr.refl h).ext ((Ext.refl w).alloc (.cells #[.int .i64 0,.string ⟨#[]⟩,.slice none 0 0,.int .i64 0,.bool false,.bool false,.slice none 0 0,.slice none 0 0,.slice none 0 0,.int .i64 0,.bool false,.bool false,.slice none 0 0,.slice none 0 0,.slice none 0 0,.int .i64 0] 111)));have hTB:w.heap.size≠B:=by omega
 have hBT:B≠w.heap.size:=by omega
 have hBb:B<w.heap.size+1:=by omega
 clear h;rw[if_neg (by simpa using n58),if_pos hv] at hT;rw[hv.1] at CP;have CV:=hid (fun W (hW:CurAt W B A n c L k)=>variable_any B A n c L k W hW hk);rw[hv.2] at CV;clear hv n58;go_enter Tryz.func47,Tryz.ntmps47
 go_wp2_with (first
  | (go_at_call 46;((with_reducible refine (CP.out _ S0.out.cur).mono ?_);rintro e w1 ⟨rfl,x1⟩;have S1:=hid (S0.out.ext x1);have T1:=hid (T0.out.ext x1);(try clear k1 kz kl);have k1:=S1.out.cur.c1;have kz:=S1.out.cur.fz;have kl:=S1.out.cur.lt;(try clear t0 t1 t2 t3 t4 t5 t6 t7 t8 t9 t10 t11 t12 t13 t14 t15 tz tl);obtain⟨⟨t0,t1,t2,t3,t4,t5,t6,t7,t8,t9,t10,t11,t12,t13,t14,t15,tl⟩,tz⟩:=T1.out;clear x1))
  | (go_at_call 46;((with_reducible refine (CP.out _ S1.out.cur).mono ?_);rintro e w2 ⟨rfl,x2⟩;have S2:=hid (S1.out.ext x2);have T2:=hid (T1.out.ext x2);(try clear k1 kz kl);have k1:=S2.out.cur.c1;have kz:=S2.out.cur.fz;have kl:=S2.out.cur.lt;(try clear t0 t1 t2 t3 t4 t5 t6 t7 t8 t9 t10 t11 t12 t13 t14 t15 tz tl);obtain⟨⟨t0,t1,t2,t3,t4,t5,t6,t7,t8,t9,t10,t11,t12,t13,t14,t15,tl⟩,tz⟩:=T2.out;clear x2))
  | (go_at_call 78;((with_reducible refine (CV.out _ S2.out.cur).mono ?_);rintro e w3 ⟨rfl,x3⟩;have S3:=hid (S2.out.ext x3);have T3:=hid (T2.out.ext x3);(try clear k1 kz kl);have k1:=S3.out.cur.c1;have kz:=S3.out.cur.fz;have kl:=S3.out.cur.lt;(try clear t0 t1 t2 t3 t4 t5 t6 t7 t8 t9 t10 t11 t12 t13 t14 t15 tz tl);obtain⟨⟨t0,t1,t2,t3,t4,t5,t6,t7,t8,t9,t10,t11,t12,t13,t14,t15,tl⟩,tz⟩:=T3.out;clear x3;have S4:=hid (S3.out.step H.out (x:=(k:Int)+1) (i:=k+1) (by omega) (by omega));have T4:=hid (T3.out.off hTB 1 (.int .i64 ((k:Int)+1))))))
 generalize hTb:w.heap.size=Tb at *;have HTE:=hid hTb;clear hTb;clear S0 T0;have hsz:∀ {W:World},(Tb<W.heap.size/\Tb≠W.heap.size)->Tb+1<=W.heap.size:=fun h=>by omega
 have CNm:=hid (fun W (hW:CurAt W B A n c L (k+1))=>name_any B A n c L (k+1) W hW);have HAXN:=hid (nameF_adv (L:=L) (k:=k+1) (by have:=HL.out;omega));obtain⟨XN,hXN⟩:∃ XN,XN=nameF L (k+1):=⟨_,rfl⟩
 have HEXN:=hid hXN;rw[<- hXN] at hT CNm HAXN;clear hXN;go_at_call 79;refine (CNm.out _ S4.out.cur).mono ?_;intro e w5 h5
 cases XN with
 | fail er qe=>
  simp only[PR.bind] at hT;subst hT;obtain⟨rfl,qz,mz⟩:=h5;exact⟨rfl,rfl,_,S4.out.mv.trans H.out mz⟩
 | ok rXN i1=>
  obtain⟨v,rfl,⟨rfl,hns⟩,m5⟩:=h5;simp only[PR.bind] at hT
  try dsimp only at hT
  have hkXN:=HAXN.out _ _ rfl;have hknXN:i1<=n:=by have:=HL.out;omega
  have S5:=hid (S4.out.go H.out m5 hknXN);have T5:=hid (T4.out.mv m5 hTB)
  (try clear k1 kz kl)
  have k1:=S5.out.cur.c1;have kz:=S5.out.cur.fz;have kl:=S5.out.cur.lt
  (try clear t0 t1 t2 t3 t4 t5 t6 t7 t8 t9 t10 t11 t12 t13 t14 t15 tz tl)
  obtain⟨⟨t0,t1,t2,t3,t4,t5,t6,t7,t8,t9,t10,t11,t12,t13,t14,t15,tl⟩,tz⟩:=T5.out;clear m5
  try dsimp only
  have S6:=hid (S5.out.ext ((Ext.refl _).alloc (.cells #[.int .i64 1,.string rXN,.slice none 0 0,.int .i64 0,.bool false,.bool false,.slice none 0 0,.slice none 0 0,.slice none 0 0,.int .i64 0,.bool false,.bool false,.slice none 0 0,.slice none 0 0,.slice none 0 0,.int .i64 0] 111)));have T6:=hid (T5.out.ext ((Ext.refl _).alloc (.cells #[.int .i64 1,.string rXN,.slice none 0 0,.int .i64 0,.bool false,.bool false,.slice none 0 0,.slice none 0 0,.slice none 0 0,.int .i64 0,.bool false,.bool false,.slice none 0 0,.slice none 0 0,.slice none 0 0,.int .i64 0] 111)));have P6:=hid (PtV.new w5 1 rXN none 0 0 0 false false none 0 0 none 0 0 none 0 0 0 false false none 0 0 none 0 0 none 0 0 0);have HCP:Hid (∀ (j:Nat) (W:World) (o:Nat) (v:Value),Cr w B A n c L j W->Cr w B A n c L j (W.setCell ⟨w5.heap.size,o,none⟩ v)):=hid (fun j W o v h=>h.other H.out S5.out.mv.size o v);have hPB:w5.heap.size≠B:=by have:=S5.out.cur.lt;omega
  have hBP:B≠w5.heap.size:=by omega
  have hTP:Tb≠w5.heap.size:=by have:=T5.out.box.lt;omega
  have hPT:w5.heap.size≠Tb:=by omega
  have HPT:Hid (Tb<w5.heap.size):=hid T5.out.box.lt.1;have hsj1:spaceF L i1<=n:=by have:=spaceF_le (L:=L) (k:=i1) (by have:=HL.out;omega);have:=HL.out;omega
  have CS1:=hid (fun W (hW:CurAt W B A n c L i1)=>space_any B A n c L i1 W hW);generalize spaceF L i1=j1 at *
  go_wp2_with (first
   | (go_at_call 45;((with_reducible refine (CS1.out _ S6.out.cur).mono ?_);rintro e w7 ⟨rfl,m7⟩;have S7:=hid (S6.out.go H.out m7 hsj1);have T7:=hid (T6.out.mv m7 hTB);have P7:=hid (P6.out.mv m7 hPB);(try clear k1 kz kl);have k1:=S7.out.cur.c1;have kz:=S7.out.cur.fz;have kl:=S7.out.cur.lt;(try clear t0 t1 t2 t3 t4 t5 t6 t7 t8 t9 t10 t11 t12 t13 t14 t15 tz tl);obtain⟨⟨t0,t1,t2,t3,t4,t5,t6,t7,t8,t9,t10,t11,t12,t13,t14,t15,tl⟩,tz⟩:=T7.out;(try clear p0 p1 p2 p3 p4 p5 p6 p7 p8 p9 p10 p11 p12 p13 p14 p15 pz pl);obtain⟨⟨p0,p1,p2,p3,p4,p5,p6,p7,p8,p9,p10,p11,p12,p13,p14,p15,pl⟩,pz⟩:=P7.out;clear m7)))
  generalize hPb:w5.heap.size=Pb at *;clear hPb;have hszP:∀ {W:World},(Pb<W.heap.size/\Pb≠W.heap.size)->Pb+1<=W.heap.size:=fun h=>by omega
  have hPb1:Pb<Pb+1:=by omega
  have CN:=hid (fun W (hW:CurAt W B A n c L (j1))=>Need_any B A n c L j1 61 W hW (by omega));have HAX61:=hid (needF_adv (L:=L) (k:=j1) (r:=61) (by omega));obtain⟨X61,hX61⟩:∃ X61,X61=needF L 61 j1:=⟨_,rfl⟩
  have HEX61:=hid hX61;rw[<- hX61] at hT CN HAX61;clear hX61;go_at_call 48;refine (CN.out _ S7.out.cur).mono ?_;intro e w8 h5
  cases X61 with
  | fail er qe=>
   simp only[PR.bind] at hT;subst hT;obtain⟨rfl,qz,mz⟩:=h5;exact⟨rfl,rfl,_,S7.out.mv.trans H.out mz⟩
  | ok rX61 i2=>
   obtain⟨v,rfl,rfl,m5⟩:=h5;simp only[PR.bind] at hT
   try dsimp only at hT
   have hkX61:=HAX61.out _ _ rfl;have hknX61:i2<=n:=by have:=HL.out;omega
   have S8:=hid (S7.out.go H.out m5 hknX61);have T8:=hid (T7.out.mv m5 hTB);have P8:=hid (P7.out.mv m5 hPB)
   (try clear k1 kz kl)
   have k1:=S8.out.cur.c1;have kz:=S8.out.cur.fz;have kl:=S8.out.cur.lt
   (try clear t0 t1 t2 t3 t4 t5 t6 t7 t8 t9 t10 t11 t12 t13 t14 t15 tz tl)
   obtain⟨⟨t0,t1,t2,t3,t4,t5,t6,t7,t8,t9,t10,t11,t12,t13,t14,t15,tl⟩,tz⟩:=T8.out
   (try clear p0 p1 p2 p3 p4 p5 p6 p7 p8 p9 p10 p11 p12 p13 p14 p15 pz pl)
   obtain⟨⟨p0,p1,p2,p3,p4,p5,p6,p7,p8,p9,p10,p11,p12,p13,p14,p15,pl⟩,pz⟩:=P8.out;clear m5
   try dsimp only
   have hsj2:spaceF L i2<=n:=by have:=spaceF_le (L:=L) (k:=i2) (by have:=HL.out;omega);have:=HL.out;omega
   have CS2:=hid (fun W (hW:CurAt W B A n c L i2)=>space_any B A n c L i2 W hW);generalize spaceF L i2=j2 at *
   go_wp2_with (first
    | (go_at_call 45;((with_reducible refine (CS2.out _ S8.out.cur).mono ?_);rintro e w9 ⟨rfl,m9⟩;have S9:=hid (S8.out.go H.out m9 hsj2);have T9:=hid (T8.out.mv m9 hTB);have P9:=hid (P8.out.mv m9 hPB);(try clear k1 kz kl);have k1:=S9.out.cur.c1;have kz:=S9.out.cur.fz;have kl:=S9.out.cur.lt;(try clear t0 t1 t2 t3 t4 t5 t6 t7 t8 t9 t10 t11 t12 t13 t14 t15 tz tl);obtain⟨⟨t0,t1,t2,t3,t4,t5,t6,t7,t8,t9,t10,t11,t12,t13,t14,t15,tl⟩,tz⟩:=T9.out;(try clear p0 p1 p2 p3 p4 p5 p6 p7 p8 p9 p10 p11 p12 p13 p14 p15 pz pl);obtain⟨⟨p0,p1,p2,p3,p4,p5,p6,p7,p8,p9,p10,p11,p12,p13,p14,p15,pl⟩,pz⟩:=P9.out;clear m9)))
   have CX:=hid (fun W (hW:CurAt W B A n c L (j2))=>setC_any 20 1 (by omega) (by omega) B A n c L j2 W hW);have HAXS:=hid (setF_adv 20 j2 (L:=L));obtain⟨XS,hXS⟩:∃ XS,XS=setF L 20 j2:=⟨_,rfl⟩
   have HEXS:=hid hXS;rw[<- hXS] at hT CX HAXS;clear hXS;go_at_call 76;refine (CX.out _ S9.out.cur).mono ?_;intro e w10 h5
   cases XS with
   | fail er qe=>
    simp only[PR.bind] at hT;subst hT;obtain⟨rfl,qz,mz⟩:=h5;exact⟨rfl,rfl,_,S9.out.mv.trans H.out mz⟩
   | ok rXS i3=>
    obtain⟨v,rfl,h6,m5⟩:=h5;simp only[PR.bind] at hT
    try dsimp only at hT
    have hkXS:=HAXS.out _ _ rfl;have hknXS:i3<=n:=by have:=HL.out;omega
    have S10:=hid (S9.out.go H.out m5 hknXS);have T10:=hid (T9.out.mv m5 hTB);have P10:=hid (P9.out.mv m5 hPB);obtain⟨A5,n5,c5,rfl,s5⟩:=h6;have Y5:=hid (SlR.mono s5 (fun _ _ h=>h) (fun b hb=>Nat.le_trans (hszP P9.out.box.lt) hb))
    (try clear k1 kz kl)
    have k1:=S10.out.cur.c1;have kz:=S10.out.cur.fz;have kl:=S10.out.cur.lt
    (try clear t0 t1 t2 t3 t4 t5 t6 t7 t8 t9 t10 t11 t12 t13 t14 t15 tz tl)
    obtain⟨⟨t0,t1,t2,t3,t4,t5,t6,t7,t8,t9,t10,t11,t12,t13,t14,t15,tl⟩,tz⟩:=T10.out
    (try clear p0 p1 p2 p3 p4 p5 p6 p7 p8 p9 p10 p11 p12 p13 p14 p15 pz pl)
    obtain⟨⟨p0,p1,p2,p3,p4,p5,p6,p7,p8,p9,p10,p11,p12,p13,p14,p15,pl⟩,pz⟩:=P10.out;clear m5 s5
    try dsimp only
    subst hT;have S11:=hid (HCP.out _ _ 2 (.slice A5 n5 c5) S10.out);have T11:=hid (T10.out.off hTP 2 (.slice A5 n5 c5));have P11:=hid (P10.out.set2 A5 n5 c5);have Y5:=hid (spans_off Y5.out hPb1 2 (.slice A5 n5 c5))
    go_wp2_with (first
     | (refine wpList_storeP T11.out rfl (.tmp 2) (.tmp 89) rfl rfl rfl ?_;intro wF FF AGF SZF EXF))
    have SF:Mv B _ w wF:=EXF _ (by rw[size_set,HTE.out];exact Nat.le_refl _) S11.out.mv;have AG:Agree (fun b=>Tb+1<=b) _ wF:=AGF.mono (fun b hb=>by omega);have HM:∀ b,Tb+1<=b->w.heap.size<=b:=fun b hb=>by rw[HTE.out];omega
    have RL:=SdA.mono (SdA.keep (sd0 _ _) AG) HM;have RR:=SdA.mono (SdA.keep (sd0 _ _) AG) HM;have RS:=SlR.mono (SlR.keep (keep_span _) (SlR.mono Y5.out (fun _ _ h=>h) (fun b hb=>Nat.le_trans (show Tb+1<=Pb+1 by have:=HPT.out;omega) hb)) AG) (fun _ _ h=>h) HM;obtain⟨⟨u0,u1,u2,u3,u4,u5,u6,u7,u8,u9,u10,u11,u12,u13,u14,u15,ul⟩,uz⟩:=FF;refine bodyPost_ret (v:=.agg #[.int .i64 1,.string rXN,.slice A5 n5 c5,.int .i64 0,.bool false,.bool false,.slice none 0 0,.slice none 0 0,.slice none 0 0,.int .i64 0,.bool false,.bool false,.slice none 0 0,.slice none 0 0,.slice none 0 0,.int .i64 0]) (by simp[results,Tryz.results47,go_sem,u0,u1,u2,u3,u4,u5,u6,u7,u8,u9,u10,u11,u12,u13,u14,u15]) rfl ?_;exact⟨_,rfl,⟨_,_,_,_,_,_,_,_,_,_,_,_,_,_,_,_,_,_,_,_,_,rfl,⟨ik1,ik0,Nat.le_trans hns (by unfold maxLen;omega),RS⟩,RL,RR⟩,SF⟩
end Go.Proofs.YthomjcjnalfipaaGreatDoor
