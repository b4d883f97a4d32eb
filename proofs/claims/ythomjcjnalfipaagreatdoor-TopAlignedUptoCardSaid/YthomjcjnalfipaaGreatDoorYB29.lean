/- A part of the proofs of the Top laws. -/
import Derived.StillTailTactics
import Derived.Deep.Cut
import Derived.Deep.CutRange
import Derived.Test.YthomjcjnalfipaaGreatDoorRows
import Derived.ProofKit
import Derived.OpenShut
import Derived.ChangeOld
import Derived.Deep.Fields
import Derived.Test.YthomjcjnalfipaaGreatDoorYB28
set_option linter.all false
set_option maxRecDepth 100000
set_option maxHeartbeats 4000000
open Go.Lib (hid)
namespace Go.Proofs.YthomjcjnalfipaaGreatDoor
open Go.RowKit
theorem Aside.cell {So:Nat->Prop} {w w':World} (h:Aside So w w') {a:Addr} {v:Value} (hc:w.cell? a=some v) (hn:¬ So a.block):w'.cell? a=some v:=
 (World.cell?_of_block (h.block a.block (World.block_lt_of_cell? w a hc) hn)).trans hc
theorem Aside.agree {So ok:Nat->Prop} {w w':World} (h:Aside So w w') (hn:∀ b,ok b->¬ So b):Agree ok w w':=fun b hb hlt=>h.block b hlt (hn b hb)
theorem Buf.off {So:Nat->Prop} {w:World} {pb:Nat} {t:List Int} {a:Nat} (h:Buf So w pb t a) {b:Nat} (hb:¬ So b) (o:Nat) (v:Value):Buf So (w.setCell ⟨b,o,none⟩ v) pb t a:=by
 obtain⟨ab,L,tz,hB,h1,h2,e⟩:=h;exact⟨ab,L,tz,hB.keep (heap_setB fun e=>hb (e▸h1)) (heap_setB fun e=>hb (e▸h2)),h1,h2,e⟩
structure StAt (So ok:Nat->Prop) (w:World) (mb pb:Nat) (A:Option Addr) (n c:Nat) (l:List Rule) (B:Option Addr) (h d q:Nat) (A3:Option Addr) (n3 c3:Nat) (t:List Int) (a s p:Nat):Prop where
 M:MaV w mb (some ⟨pb,0,none⟩) A n c B h d q A3 n3 c3 s p
 Bf:Buf So w pb t a
 R:SlR (rRuleO ok) 7 ok w A n c l
 H:SlR (rHd ok) 3 ok w B h d (headsF l)
section
variable {So ok : Nat -> Prop} {w w' : World} {mb pb : Nat} {A : Option Addr} {n c : Nat} {l : List Rule} {B : Option Addr} {h d q : Nat} {A3 : Option Addr} {n3 c3 : Nat} {t : List Int} {a s p : Nat}
theorem StAt.ext (S:StAt So ok w mb pb A n c l B h d q A3 n3 c3 t a s p) (e:Ext w w'):StAt So ok w' mb pb A n c l B h d q A3 n3 c3 t a s p:=
 ⟨S.M.ext e,Buf.ext S.Bf e,SlR.ext (keep_ruleO ok) S.R e,SlR.ext (fam_hd.keep ok) S.H e⟩
theorem StAt.rules (S:StAt So ok w mb pb A n c l B h d q A3 n3 c3 t a s p):Rules w A n c l:=S.R.mono (fun _ _ h=>rRuleO_top h) (fun _ _=>trivial)
theorem StAt.heads (S:StAt So ok w mb pb A n c l B h d q A3 n3 c3 t a s p):Hds top w B h d (headsF l):=S.H.mono (fun _ _ h=>fam_hd.mono (fun _ _=>trivial) h) (fun _ _=>trivial)
theorem StAt.set (S:StAt So ok w mb pb A n c l B h d q A3 n3 c3 t a s p) (hmb:¬ So mb) (ho:∀ b,ok b->b≠mb) {o:Nat} {v:Value} {s' p':Nat} {x y:Int} (hx:x=(s':Nat)) (hy:y=(p':Nat)) (M':MaV (w.setCell ⟨mb,o,none⟩ v) mb (some ⟨pb,0,none⟩) A n c B h d q A3 n3 c3 x y) :
  StAt So ok (w.setCell ⟨mb,o,none⟩ v) mb pb A n c l B h d q A3 n3 c3 t a s' p':=
 ⟨hx▸hy▸M',Buf.off S.Bf hmb o v,S.R.keep (keep_ruleO ok) ((agree_set mb o w v).mono ho),S.H.keep (fam_hd.keep ok) ((agree_set mb o w v).mono ho)⟩
theorem StAt.turn (S:StAt So ok w mb pb A n c l B h d q A3 n3 c3 t a s p) (hmb:¬ So mb) (ho:∀ b,ok b->¬ So b) (hS:Aside So w w') {t':List Int} {a':Nat} (hB:Buf So w' pb t' a'):StAt So ok w' mb pb A n c l B h d q A3 n3 c3 t' a' s p:=
 ⟨S.M.keep (hS.block mb S.M.lt.1 hmb) hS.size,hB,S.R.keep (keep_ruleO ok) (hS.agree ho),S.H.keep (fam_hd.keep ok) (hS.agree ho)⟩
end
theorem SlR.ruleO {ok ok2:Nat->Prop} {w:World} {A:Option Addr} {n c k:Nat} {l:List Rule} {r:Rule} (h:SlR (rRuleO ok) 7 ok2 w A n c l) (hx:l[k]? =some r) :
  ∃ b off s f A1 n1 c1 A2 n2 c2 A3 n3 c3 A4 n4 c4 q,A=some ⟨b,off,none⟩/\ok2 b/\(b<w.heap.size/\b≠w.heap.size)/\RuleV w s f A1 n1 c1 A2 n2 c2 A3 n3 c3 A4 n4 c4 q r/\SlR rRune 1 ok w A4 n4 c4 r.target /\
   RuleAt w b (off+k*7) s f A1 n1 c1 A2 n2 c2 A3 n3 c3 A4 n4 c4 q:=by
 obtain⟨b,off,vs,e,ho,_,hr,hc⟩:=h.at_ k r hx;have hr2:=rRuleO_top hr;obtain⟨s,f,A1,n1,c1,A2,n2,c2,A3,n3,c3,A4,n4,c4,q,rfl,g1,g2,g3,g4,g5,g6,g7,g8⟩:=hr;obtain⟨s',f',A1',n1',c1',A2',n2',c2',A3',n3',c3',A4',n4',c4',q',ev,hv⟩:=hr2;cases ev;have h0:=hc 0 _ rfl;have hlt:b<w.heap.size:=World.block_lt_of_cell? w _ h0;exact⟨b,off,s,f,A1,n1,c1,A2,n2,c2,A3,n3,c3,A4,n4,c4,q,e,ho,⟨hlt,by omega⟩,hv,g6,⟨by simpa using h0,by simpa using hc 1 _ rfl,by simpa using hc 2 _ rfl,by simpa using hc 3 _ rfl,by simpa using hc 4 _ rfl,by simpa using hc 5 _ rfl,by simpa using hc 6 _ rfl⟩⟩
theorem RuleAt.side {So:Nat->Prop} {w w':World} {b off:Nat} {s f:Bool} {A1:Option Addr} {n1 c1:Nat} {A2:Option Addr} {n2 c2:Nat} {A3:Option Addr} {n3 c3:Nat} {A4:Option Addr} {n4 c4:Nat} {q:Int}
  (h:RuleAt w b off s f A1 n1 c1 A2 n2 c2 A3 n3 c3 A4 n4 c4 q) (e:Aside So w w') (hn:¬ So b):RuleAt w' b off s f A1 n1 c1 A2 n2 c2 A3 n3 c3 A4 n4 c4 q:=
 ⟨e.cell h.h0 hn,e.cell h.h1 hn,e.cell h.h2 hn,e.cell h.h3 hn,e.cell h.h4 hn,e.cell h.h5 hn,e.cell h.h6 hn⟩
theorem Buf.at {So:Nat->Prop} {w:World} {pb:Nat} {t:List Int} {a:Nat} (h:Buf So w pb t a):Calls Tryz.prog 101 #[.pointer (some ⟨pb,0,none⟩)] w fun e w'=>e=.returned (.int .i64 a)/\w'=w:=by
 obtain⟨ab,L,tz,hb,_,_,_⟩:=h;exact gAt_any hb
theorem del_put {t:List Int} {a:Nat} {r:Rule} {ns:Nat} (hs:r.source.length=ns) (h:a+ns<=t.length) :
  (t.take a++t.drop (a+ns)).take a++r.target++(t.take a++t.drop (a+ns)).drop a=putAt r t a:=by
 have hl:(t.take a).length=a:=by simp;omega
 unfold putAt;rw[hs];congr 1
 ·congr 1;rw[List.take_append_of_le_length (by omega),List.take_of_length_le (by omega)]
 ·rw[List.drop_append,List.drop_of_length_le (by omega),List.nil_append,hl,Nat.sub_self,List.drop_zero]
def StepPost (So ok:Nat->Prop) (w:World) (mb pb:Nat) (A:Option Addr) (n c:Nat) (l:List Rule) (B:Option Addr) (h d q:Nat) (A3:Option Addr) (n3 c3:Nat) (t:List Int) (a s p:Nat) (e:Ending) (w':World):Prop:=
 Aside (fun b=>So b\/b=mb) w w' /\
 if s=q then e=.returned (.tuple #[.int .i64 0,.int .i64 9])
 else match playStep l ⟨t,a,s,p⟩ with
  | none=>e=.returned (.tuple #[.int .i64 0,.int .i64 4])
  | some y=>e=.returned (.tuple #[.int .i64 (first l t a),.int .i64 0])/\StAt So ok w' mb pb A n c l B h d q A3 n3 c3 y.text y.at_ y.steps y.put
section
variable {So ok : Nat -> Prop} (mb pb a nt : Nat) (t : List Int) (A : Option Addr) (n c : Nat) (l : List Rule) (B : Option Addr) (h d q s p : Nat) (A3 : Option Addr) (n3 c3 : Nat) (w : World)
theorem mStep_any (S:StAt So ok w mb pb A n c l B h d q A3 n3 c3 t a s p) (hmb:¬ So mb) (ho:∀ b,ok b->¬ So b/\b≠mb) (hnew:∀ b,w.heap.size<=b->So b)
  (hnt:t.length=nt) (hn:nt<=4000) (ha:a<nt) (htr:t.all right=true) (hok:∀ r∈l,OkRule r) (hn2:n<=200) (hh4:h<=400) (hq:q<=40000) (hs:s<=q) (hp:p<=s) :
  Calls Tryz.prog 103 #[.pointer (some ⟨mb,0,none⟩)] w (StepPost So ok w mb pb A n c l B h d q A3 n3 c3 t a s p):=by
 have ho1:∀ b,ok b->¬ So b:=fun b hb=>(ho b hb).1;have ho2:∀ b,ok b->b≠mb:=fun b hb=>(ho b hb).2;have y3:=S.M.h3;have y5:=S.M.h5;have SS:=hid S;by_cases hsq:s=q
 ·have g:((s:Int)==(q:Int))=true:=by simp[hsq]
  clear S;go_enter Tryz.func103,Tryz.ntmps103;go_wp2;go_quiet (fail);go_wp2;refine bodyPost_ret (v:=.tuple #[.int .i64 0,.int .i64 9]) (by simp[results,Tryz.results103,go_sem]) rfl ?_;refine⟨(Aside.refl _ _).drewN _,?_⟩;rw[if_pos hsq]
 have g:((s:Int)==(q:Int))=false:=by simp;omega
 have HQ:=hid hsq;have hsq':s<q:=by omega
 clear S hsq;go_enter Tryz.func103,Tryz.ntmps103;go_wp2;go_quiet (fail);have D0:=(Ext.refl w).drewN nq;have SD:=hid ((Aside.refl (fun b=>So b\/b=mb) w).drewN nq);have S0:=hid (SS.out.ext D0);have hnew0:=hid (fun b (hb:(w.drewN nq).heap.size<=b)=>hnew b hb);clear y3 y5 D0 g;generalize w.drewN nq=w1 at *;have y5:=S0.out.M.h5;have yz:=S0.out.M.fz;have yl:=S0.out.M.lt;have S1:=hid (S0.out.set hmb ho2 (s':=s+1) (p':=p) (by omega) rfl (S0.out.M.set5 ((s:Int)+1)));have SD1:=hid (SD.out.setCell (p:=⟨mb,5,none⟩) (.inr rfl) (.int .i64 ((s:Int)+1)));have hnew1:=hid (fun b (hb:(w1.setCell ⟨mb,5,none⟩ (.int .i64 ((s:Int)+1))).heap.size<=b)=>hnew0.out b (by rw[size_set] at hb;exact hb));go_upto_region 4 with fail;clear y5 yz yl SD S0 hnew0;generalize w1.setCell ⟨mb,5,none⟩ (.int .i64 ((s:Int)+1))=w2 at *;have HF:=hid (mFind_any mb pb a nt t A n c l B h d q _ p A3 n3 c3 w2 S1.out.M S1.out.Bf hnt hn ha htr S1.out.rules hok hn2 hh4 S1.out.heads);by_cases hk:first l t a<0
 ·have hkd:decide (first l t a<0)=true:=decide_eq_true hk;have HP:=hid (playStep_no (s:=s) (p:=p) hk);have hw:IntKind.i64.wrap ((a:Int)+1)=((a+1:Nat):Int):=by rw[IntWalk.i64_in _ (by omega)];omega
  clear hk;go_wp2_with (go_at_call 137;refine HF.out.mono ?_;rintro e w3 ⟨rfl,x3⟩);have S3:=hid (S1.out.ext x3);have m0:=S3.out.M.h0;have hA:=Buf.at (Buf.ext S3.out.Bf (Ext.refl w3).drew);refine wp_region_still_tail 10 (by kernel_rfl) (by kernel_rfl) ?_;simp only[List.take_succ_cons,List.take_zero,List.drop_succ_cons,List.drop_zero]
  repeat (first | still_step | still_call hA)
  try refine wpStill_nil ?_
  change wpList _ _ _ _ _ w3.drew;go_wp2_with (go_at_call 138;refine (gMove_any (Buf.ext S3.out.Bf (Ext.refl w3).drew) (a+1) (by omega)).mono ?_;rintro e w5 ⟨rfl,hS,hB⟩);go_wp2;refine bodyPost_ret (v:=.tuple #[.int .i64 (first l t a),.int .i64 0]) (by simp[results,Tryz.results103,go_sem]) rfl ?_;refine⟨((SD1.out.trans (Aside.ofExt (x3.trans (Ext.refl w3).drew))).trans (hS.mono fun b hb=>.inl hb)),?_⟩;rw[if_neg HQ.out,HP.out];exact⟨rfl,(S3.out.ext (Ext.refl w3).drew).turn hmb ho1 hS hB⟩
 ·obtain⟨i,r,hir,hhere,hfi⟩:=first_mem (by omega:0<=first l t a);have hkd:decide (first l t a<0)=false:=decide_eq_false hk;have HFI:=hid hfi;have hroom:=here_room hhere;have okr:=hok r (List.mem_of_getElem? hir);have hls:=okr.ls;have hlt:=okr.lt;have hc0:=okr.c0;have hc1:=okr.c1;have hin:i<n:=by rw[<- S1.out.R.len];exact lt_of_get hir
  have hin':(i:Int)<(n:Int):=by omega
  clear hk hhere hfi okr;go_upto_region 9 with (go_at_call 137;refine HF.out.mono ?_;rintro e w3 ⟨rfl,x3⟩;rw[HFI.out];have S3:=hid (S1.out.ext x3);have y6:=S3.out.M.h6;have yz:=S3.out.M.fz;have yl:=S3.out.M.lt);have S4:=hid (S3.out.set hmb ho2 (s':=s+1) (p':=p+1) rfl (by omega) (S3.out.M.set6 ((p:Int)+1)));have SD4:=hid ((SD1.out.trans (Aside.ofExt x3)).setCell (p:=⟨mb,6,none⟩) (.inr rfl) (.int .i64 ((p:Int)+1)));have hnew4:=hid (fun b (hb:(w3.setCell ⟨mb,6,none⟩ (.int .i64 ((p:Int)+1))).heap.size<=b)=>hnew1.out b (by rw[size_set] at hb;have:=x3.size;omega));clear y6 yz yl S3 SD1 hnew1 HF S1 x3;generalize w3.setCell ⟨mb,6,none⟩ (.int .i64 ((p:Int)+1))=w4 at *;obtain⟨b,off,s',f',A1,n1,c1,A2,m2,c2,A4,n4,c4,A5,n5,c5,qc,rfl,hokb,⟨hb,hbn⟩,hv,htg,hra⟩:=S4.out.R.ruleO hir;have m0:=S4.out.M.h0;have m1:=S4.out.M.h1;have t3:=hra.h3;have t5:=hra.h5;have HLq:=hid (fun j=>maLen_quiet S4.out.Bf hnt j);have l2:=hv.source.len;have l5:=hv.target.len;have hqc:=hv.cursor;rw[l2] at hroom hls;rw[l5] at hlt hc1;rw[hqc] at hc0 hc1;obtain⟨kc,rfl⟩:=Int.eq_ofNat_of_zero_le hc0;have hv2:=hid hv.target;have HTG:=hid htg;have HRA:=hid hra;have L2:=hid l2;have L5:=hid l5;have QC:=hid hqc;have HIR:=hid hir;have hw1:IntKind.i64.wrap ((nt:Int)-(m2:Int))=(nt:Int)-(m2:Int):=IntWalk.i64_in _ (by omega);have hw2:IntKind.i64.wrap ((nt:Int)-(m2:Int)+(n5:Int))=(nt:Int)-(m2:Int)+(n5:Int):=IntWalk.i64_in _ (by omega);clear hv htg hra hc0 l2 l5 hqc hir;by_cases hb4:4000<(nt:Int)-(m2:Int)+(n5:Int)
  ·have hbd:decide ((4000:Int)<(nt:Int)-(m2:Int)+(n5:Int))=true:=decide_eq_true hb4;have HP:=hid (playStep_much (s:=s) (p:=p) HFI.out HIR.out (by rw[hnt,L2.out,L5.out];exact hb4));clear hb4;go_wp2;go_quiet ((go_at_call 102;exact HLq.out _));go_wp2;refine bodyPost_ret (v:=.tuple #[.int .i64 0,.int .i64 4]) (by simp[results,Tryz.results103,go_sem]) rfl ?_;refine⟨SD4.out.drewN _,?_⟩;rw[if_neg HQ.out,HP.out]
  ·have hbd:decide ((4000:Int)<(nt:Int)-(m2:Int)+(n5:Int))=false:=decide_eq_false hb4;have HP:=hid (playStep_put (s:=s) (p:=p) HFI.out HIR.out (by rw[hnt,L2.out,L5.out];exact hb4));go_wp2;go_quiet ((go_at_call 102;exact HLq.out _));have D4:=(Ext.refl w4).drewN nq;have S5:=hid (S4.out.ext D4);have SD5:=hid (SD4.out.drewN nq);have R5:=hid (HRA.out.ext D4);have G5:=hid (HTG.out.keep (keep_rune ok) (D4.agree ok));have hnew5:=hid (fun b (hb:(w4.drewN nq).heap.size<=b)=>hnew4.out b hb);clear m0 m1 t3 t5 hw1 hw2 hbd S4 SD4 HRA HTG hnew4 HLq D4;generalize w4.drewN nq=w5 at *;have hAt:=Buf.at S5.out.Bf;have m0:=S5.out.M.h0;have t3:=R5.out.h3;go_upto_region 13 with (go_at_call 101;refine hAt.mono ?_;rintro e w' ⟨rfl,hw'⟩;rw[hw']);have hlen1:(t.take a++t.drop (a+m2)).length=nt-m2:=by rw[List.length_append,List.length_take,List.length_drop,hnt];omega
   have HB5:=hid (Buf.ext S5.out.Bf (Ext.refl w5).drew);go_still_tail 9,(by kernel_rfl)
   change wpList _ _ _ _ _ w5.drew;clear hAt t3;go_upto_region 14 with (go_at_call 139;refine (gDel_any HB5.out m2 (by omega)).mono ?_;rintro e w6 ⟨rfl,hS6,hB6⟩;have e6:=(Aside.ofExt (So:=So) (Ext.refl w5).drew).trans hS6;have m06:=e6.cell m0 hmb;have R6:=hid (R5.out.side e6 (ho1 _ hokb));have t5:=R6.out.h5;have E6:=hid e6;clear e6);have HB6:=hid (Buf.ext hB6 (Ext.refl w6).drew);have E6d:=hid (E6.out.trans (Aside.ofExt (Ext.refl w6).drew));have G6:=hid ((G5.out.mono (fun _ _ h=>h) (fun b hb=>ho1 b hb)).keep (keep_rune _) (E6d.out.agree (fun b h=>h)));have hnew6:=hid (fun b (hb:w6.drew.heap.size<=b)=>hnew5.out b (Nat.le_trans E6.out.size hb));go_still_tail 8,(by kernel_rfl)
   change wpList _ _ _ _ _ w6.drew;clear m0 t5 hB6 hS6;go_upto_region 15 with (go_at_call 140;refine (gPut_any HB6.out G6.out (by omega) hnew6.out).mono ?_;rintro e w7 ⟨rfl,hS7,hB7⟩;have e7:=E6d.out.trans hS7;have m07:=(((Aside.ofExt (So:=So) (Ext.refl w6).drew).trans hS7)).cell m06 hmb;have R7:=hid (R6.out.side ((Aside.ofExt (So:=So) (Ext.refl w6).drew).trans hS7) (ho1 _ hokb));have t6:=R7.out.h6;have E7:=hid e7;clear e7);rw[del_put L2.out hroom] at hB7;have HB7:=hid (Buf.ext hB7 (Ext.refl w7).drew);have hwk:IntKind.i64.wrap ((a:Int)+(kc:Int))=((a+kc:Nat):Int):=by rw[IntWalk.i64_in _ (by omega)];omega
   have hpl:=putAt_len (r:=r) (t:=t) (a:=a) (by rw[L2.out];exact hroom);rw[L2.out,L5.out,hnt] at hpl;go_still_tail 10,(by kernel_rfl)
   change wpList _ _ _ _ _ w7.drew;clear t6 hB7 hS7 m06;go_wp2_with (go_at_call 138;refine (gMove_any HB7.out (a+kc) (by omega)).mono ?_;rintro e w8 ⟨rfl,hS8,hB8⟩);refine bodyPost_ret (v:=.tuple #[.int .i64 i,.int .i64 0]) (by simp[results,Tryz.results103,go_sem]) rfl ?_;have E8:=(E7.out.trans (Aside.ofExt (Ext.refl w7).drew)).trans hS8;refine⟨SD5.out.trans (E8.mono fun b hb=>.inl hb),?_⟩;rw[if_neg HQ.out,HP.out];refine⟨by rw[HFI.out],?_⟩;show StAt So ok w8 mb pb _ n c l B h d q A3 n3 c3 (putAt r t a) (a+r.cursor.toNat) (s+1) (p+1);rw[QC.out,Int.toNat_natCast];exact S5.out.turn hmb ho1 E8 hB8
end
end Go.Proofs.YthomjcjnalfipaaGreatDoor
