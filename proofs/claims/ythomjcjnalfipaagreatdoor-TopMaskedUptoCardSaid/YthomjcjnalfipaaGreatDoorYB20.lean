/- A part of the proofs of the Top laws. -/
import Derived.Test.YthomjcjnalfipaaGreatDoorRows
import Derived.ProofKit
import Derived.OpenShut
import Derived.ChangeOld
import Derived.Deep.Fields
import Derived.Test.YthomjcjnalfipaaGreatDoorYB18
import Derived.Test.YthomjcjnalfipaaGreatDoorYB19
set_option linter.all false
set_option maxRecDepth 100000
set_option maxHeartbeats 16000000
open Go.Lib (hid)
namespace Go.Proofs.YthomjcjnalfipaaGreatDoor
open Go.RowKit
theorem RowR.step {α :Type} {R:(Nat->Prop)->World->List Value-> α ->Prop} {e:TypeId} {sz base:Nat} {w:World} {v:Value} {l:List α} {B:Nat} {x:Value} (h:RowR R e sz base w v l) (F:Fam R) (hB:B<base):RowR R e sz base (w.setCell ⟨B,1,none⟩ x) v l:=
 h.agree F ((agree_set B 1 w x).mono fun b hb=>by omega) (by rw[size_set];exact Nat.le_refl _)
theorem RowR.src {α :Type} {R:(Nat->Prop)->World->List Value-> α ->Prop} {e:TypeId} {sz base:Nat} {w:World} {v:Value} {l:List α} (F:Fam R) (h:RowR R e sz base w v l) :
  ∃ A c,v=.slice A l.length c/\SlR (R fun b=>base<=b/\b<w.heap.size) sz (fun b=>base<=b) w A l.length c l:=by
 obtain⟨ok,o,h1,_⟩:=h;obtain⟨A,c,e,hs⟩:=o.sl;exact⟨A,c,e,hs.mono (fun vs x hx=>F.mono (fun b hb=>h1 b hb) hx) (fun _ h=>h)⟩
theorem plain_ne {r:Int} (h:plainB r=true):(r==124)=false/\(r==91)=false/\(r==36)=false/\(r==39)=false/\(r==92)=false:=by
 unfold plainB special at h;simp at h;obtain⟨_,_,h⟩:=h;simp;omega
theorem spans_lt {base:Nat} {w:World} {A:Option Addr} {n c:Nat} {s:List Sp} (h:SlR rSpan 2 (fun b=>base<=b) w A n c s):SlR rSpan 2 (fun b=>base<=b/\b<w.heap.size) w A n c s:=h.lt (by omega)
theorem Clear.more {tk:Nat->Prop} {base:Nat} {w w':World} {v:Value} (h:Clear tk base w v) (hs:w.heap.size<=w'.heap.size):Clear tk base w' v:=fun i hi=>⟨(h i hi).1,Nat.lt_of_lt_of_le (h i hi).2.1 hs,(h i hi).2.2⟩
def rItems (base:Nat):List It×Int->World->Value->Prop:=fun o W v=>
 ∃ A c,v=.tuple #[.slice A o.1.length c,.int .i64 o.2]/\Its (fun b=>base<=b) W A o.1.length c o.1/\o.1.length<=20/\ -1<=o.2/\o.2<=20
theorem rItems.of {base:Nat} {W:World} {A:Option Addr} {c:Nat} {out:List It} {cur:Int} {q:Nat} (hq:out.length=q) (h:ItR base W (.slice A q c) out) (h2:q<=20) (h3: -1<=cur) (h4:cur<=20):rItems base (out,cur) W (.tuple #[.slice A q c,.int .i64 cur]):=by
 subst hq;obtain⟨A',c',e,hs⟩:=h.sl fam_it;cases e;exact⟨A,c,rfl,hs,h2,h3,h4⟩
theorem items_any (B:Nat) (A:Option Addr) (n c:Nat) (L:List Int) (k:Nat) (w:World) (h:CurAt w B A n c L k) (hn:n<=16000) :
  Calls Tryz.prog 118 #[.pointer (some ⟨B,0,none⟩)] w fun e w'=>PRet w B (itemsF L k) (rItems w.heap.size) e w':=by
 have H:=hid h;have HL:=hid h.row.len;have HI:=hid h.i32;have hnb:=h.nb;have hle:=h.le;have hB:=h.lt.1;have hsp0:spaceF L k<=n:=by have:=spaceF_le (L:=L) (k:=k) (by have:=HL.out;omega);have:=HL.out;omega
 obtain⟨T,hT⟩:∃ T,itemsF L k=T:=⟨_,rfl⟩
 rw[hT];unfold itemsF at hT;have CS0:=hid (fun W (hW:CurAt W B A n c L k)=>space_any B A n c L k W hW);generalize spaceF L k=j0 at *;have HT0:=hid hT;have HF0:Hid (n<L.length+1+j0):=hid (by have:=HL.out;omega);have S0:=hid (Cr.refl h);have O0:Hid (ItR w.heap.size w (.slice none 0 0) []):=hid (RowR.nil _ _ _ _ _);have k1:=S0.out.cur.c1;have kz:=S0.out.cur.fz;have kl:=S0.out.cur.lt;clear h hT;go_enter Tryz.func118,Tryz.ntmps118
 go_wp2_with (first
  | (go_at_call 45;((with_reducible refine (CS0.out _ S0.out.cur).mono ?_);rintro e w1 ⟨rfl,m1⟩;have S1:=hid (S0.out.go H.out m1 hsp0);clear k1 kz kl;have k1:=S1.out.cur.c1;have kz:=S1.out.cur.fz;have kl:=S1.out.cur.lt;have O1:=hid (O0.out.mv fam_it m1 hB);clear m1)))
 clear k1 kz kl;go_loopw [2,3] (fun v2 v3 wr=>∃ (f j:Nat) (out:List It) (q:Nat) (cur:Int) (A2:Option Addr) (c2:Nat),Hid (out.length=q)/\v2=.slice A2 q c2/\v3=.int .i64 cur/\Hid (n<f+j)/\j<=n/\q<=20/\ -1<=cur/\cur<=20/\Hid (itemsN L f out cur j=T)/\Hid (Cr w B A n c L j wr)/\Hid (ItR w.heap.size wr (.slice A2 q c2) out)) (fun _ _ wr=>n-atOf B wr);case atStart=>exact⟨_,j0,[],0,-1,none,0,hid rfl,rfl,rfl,HF0,hsp0,by omega,by omega,by omega,HT0,S1,O1⟩
 case round=>
  clear HT0 S0 HF0 S1 O0 O1 CS0;obtain⟨f',j,out,q,cur,A2,c2,HQ0,rfl,rfl,HF,hj,hq,hc1,hc2,HT,S0,O0⟩:=hrel;obtain⟨f,rfl⟩:∃ f,f'=f+1:=⟨f'-1,by have:=HF.out;omega⟩
  have hT:=HT.out;unfold itemsN at hT;have HA:=hid S0.out.cur.at_;have k1:=S0.out.cur.c1;have kz:=S0.out.cur.fz;have kl:=S0.out.cur.lt;have wj:IntKind.i64.wrap ((j:Int)+1)=(j:Int)+1:=IntWalk.i64_in _ (by omega);have CP:=hid (fun W (hW:CurAt W B A n c L (j))=>Peek_any B A n c L (j) W hW);clear HT;cases hbg:beginsB L j
  ·rw[hbg] at hT;simp only[Bool.false_eq_true,if_false] at hT;subst hT;unfold beginsB at hbg;simp only[Bool.or_eq_false_iff] at hbg;obtain⟨⟨⟨⟨⟨n124,n91⟩,n36⟩,n39⟩,n92⟩,hpl⟩:=hbg;by_cases h36:lookF L j=36
   ·rw[h36] at n36 CP hpl;simp only[beq_self_eq_true,Bool.true_and] at n36;have CL:=hid (fun W (hW:CurAt W B A n c L j)=>show Calls Tryz.prog 75 #[.pointer (some ⟨B,0,none⟩),.int .i64 1] W fun e w'=>e=.returned (.int .i32 (lookF L (j+1)))/\Ext W w' from by simpa using Look_any B A n c L j 1 W hW (by omega));have CLt:=hid (fun W=>letter_any (lookF L (j+1)) W);rw[n36] at CLt;have CPl:=hid (fun W=>Plain_any 36 W (by unfold i32;omega));rw[hpl] at CPl;generalize lookF L (j+1)=r2 at *;clear n124 n91 n39 n92 h36 hpl n36
    go_wp2_with (first
     | (go_at_call 46;((with_reducible refine (CP.out _ S0.out.cur).mono ?_);rintro e w1 ⟨rfl,x1⟩;have S1:=hid (S0.out.ext x1);clear k1 kz kl;have k1:=S1.out.cur.c1;have kz:=S1.out.cur.fz;have kl:=S1.out.cur.lt;have O1:=hid (O0.out.ext fam_it x1);clear x1))
     | (go_at_call 75;((with_reducible refine (CL.out _ S1.out.cur).mono ?_);rintro e w2 ⟨rfl,x2⟩;have S2:=hid (S1.out.ext x2);clear k1 kz kl;have k1:=S2.out.cur.c1;have kz:=S2.out.cur.fz;have kl:=S2.out.cur.lt;have O2:=hid (O1.out.ext fam_it x2);clear x2))
     | (go_at_call 149;((with_reducible refine (CLt.out _).mono ?_);rintro e w3 ⟨rfl,rfl⟩))
     | (go_at_call 144;((with_reducible refine (CPl.out _).mono ?_);rintro e w4 ⟨rfl,x4⟩;have S4:=hid (S2.out.ext x4);have O4:=hid (O2.out.ext fam_it x4);clear x4)))
    go_ret2;exact⟨_,rfl,rItems.of HQ0.out O4.out hq hc1 hc2,S4.out.mv⟩
   ·have n36':(lookF L j==36)=false:=by simpa using h36
    have CPl:=hid (fun W=>Plain_any (lookF L j) W (lookF_i32 HI.out j));rw[hpl] at CPl;clear n36 h36 hpl;generalize lookF L j=r at *
    go_wp2_with (first
     | (go_at_call 46;((with_reducible refine (CP.out _ S0.out.cur).mono ?_);rintro e w1 ⟨rfl,x1⟩;have S1:=hid (S0.out.ext x1);clear k1 kz kl;have k1:=S1.out.cur.c1;have kz:=S1.out.cur.fz;have kl:=S1.out.cur.lt;have O1:=hid (O0.out.ext fam_it x1);clear x1))
     | (go_at_call 144;((with_reducible refine (CPl.out _).mono ?_);rintro e w4 ⟨rfl,x4⟩;have S4:=hid (S1.out.ext x4);have O4:=hid (O1.out.ext fam_it x4);clear x4)))
    go_ret2;exact⟨_,rfl,rItems.of HQ0.out O4.out hq hc1 hc2,S4.out.mv⟩
  ·rw[hbg] at hT;simp only[if_true] at hT;unfold itemF at hT;by_cases h124:lookF L j=124
   ·rw[if_pos h124] at hT;rw[h124] at CP;have hj1:j<n:=by have:=look_lt' h124 (by omega);have:=HL.out;omega
    clear hbg h124;by_cases hcu:0<=cur
    ·rw[if_pos hcu] at hT;simp only[PR.bind] at hT;subst hT;have CF:=hid (fun W=>Fail_any 5 j W)
     go_wp2_with (first
      | (go_at_call 46;((with_reducible refine (CP.out _ S0.out.cur).mono ?_);rintro e w1 ⟨rfl,x1⟩;have S1:=hid (S0.out.ext x1);clear k1 kz kl;have k1:=S1.out.cur.c1;have kz:=S1.out.cur.fz;have kl:=S1.out.cur.lt;have O1:=hid (O0.out.ext fam_it x1);clear x1))
      | (go_at_call 44;((with_reducible refine (CF.out _).mono ?_);rintro e wz ⟨rfl,rfl⟩)))
     exact⟨rfl,rfl,_,S1.out.mv⟩
    ·rw[if_neg hcu] at hT;simp only[PR.bind] at hT;have HQ:=HQ0
     try dsimp only at hT
     have h20:¬ 20<q:=by omega
     rw[HQ.out,if_neg h20] at hT;have hsp:spaceF L (j+1)<=n:=by have:=spaceF_le (L:=L) (k:=j+1) (by have:=HL.out;omega);have:=HL.out;omega
     have HSG:Hid (j+1<=spaceF L (j+1)):=hid spaceF_ge;have HN:=hid hT;clear hT;have CS:=hid (fun W (hW:CurAt W B A n c L (j+1))=>space_any B A n c L (j+1) W hW);generalize spaceF L (j+1)=j2 at *
     go_wp2_with (first
      | (go_at_call 46;((with_reducible refine (CP.out _ S0.out.cur).mono ?_);rintro e w1 ⟨rfl,x1⟩;have S1:=hid (S0.out.ext x1);clear k1 kz kl;have k1:=S1.out.cur.c1;have kz:=S1.out.cur.fz;have kl:=S1.out.cur.lt;have O1:=hid (O0.out.ext fam_it x1);have S2:=hid (S1.out.step H.out (x:=(j:Int)+1) (i:=j+1) (by omega) (by omega));have O2:=hid (O1.out.step fam_it hB (x:=.int .i64 ((j:Int)+1)));clear x1))
      | (go_at_call 45;((with_reducible refine (CS.out _ S2.out.cur).mono ?_);rintro e w3 ⟨rfl,m3⟩;have S3:=hid (S2.out.go H.out m3 hsp);clear k1 kz kl;have k1:=S3.out.cur.c1;have kz:=S3.out.cur.fz;have kl:=S3.out.cur.lt;have O3:=hid (O2.out.mv fam_it m3 hB);clear m3)))
     have HA2:=hid S3.out.cur.at_;go_roundw;case rel=>exact⟨f,j2,_,_,_,_,_,HQ,rfl,rfl,hid (by have:=HF.out;have:=HSG.out;omega),hsp,by omega,by omega,by omega,HN,S3,O3⟩
     case measure=>have e1:=HA.out;have e2:=HA2.out;have:=HSG.out;rw[e1,e2];omega
   ·rw[if_neg h124] at hT;have n124:(lookF L j==124)=false:=by simpa using h124
    by_cases h91:lookF L j=91
    ·rw[if_pos h91] at hT;rw[h91] at CP;have hj1:j<n:=by have:=look_lt' h91 (by omega);have:=HL.out;omega
     have CX:=hid (fun W (hW:CurAt W B A n c L j)=>setC_any 20 1 (by omega) (by omega) B A n c L j W hW);clear hbg n124 h124 h91;have HV:=setF_adv 20 j (L:=L)
     cases hX:setF L 20 j with
     | fail er qe=>
      rw[hX] at hT CX;simp only[PR.bind] at hT;subst hT;clear hX HV
      go_wp2_with (first
       | (go_at_call 46;((with_reducible refine (CP.out _ S0.out.cur).mono ?_);rintro e w1 ⟨rfl,x1⟩;have S1:=hid (S0.out.ext x1);clear k1 kz kl;have k1:=S1.out.cur.c1;have kz:=S1.out.cur.fz;have kl:=S1.out.cur.lt;have O1:=hid (O0.out.ext fam_it x1);clear x1))
       | (go_at_call 76;((with_reducible refine (CX.out _ S1.out.cur).mono ?_);rintro e wz ⟨rfl,qz,mz⟩;have MZ:=hid (S1.out.mv.trans H.out mz);clear mz)))
      exact⟨rfl,rfl,_,MZ.out⟩
     | ok xs k2=>
      have hk2:=HV _ _ hX;have hk2n:k2<=n:=by have:=HL.out;omega
      rw[hX] at hT CX;simp only[PR.bind] at hT
      try dsimp only at hT
      obtain⟨q2,hq2⟩:∃ q2,(out++[(⟨2,0,xs,.empty⟩:It)]).length=q2:=⟨_,rfl⟩
      have HQ:=hid hq2;clear hX HV hq2;have hsp:spaceF L (k2)<=n:=by have:=spaceF_le (L:=L) (k:=k2) (by have:=HL.out;omega);have:=HL.out;omega
      have HSG:Hid (k2<=spaceF L (k2)):=hid spaceF_ge;by_cases h20:20<q2
      ·rw[if_pos (by rw[HQ.out];exact h20)] at hT;subst hT;have CF:=hid (fun W=>Fail_any 5 j W)
       go_wp2_with (first
        | (go_at_call 46;((with_reducible refine (CP.out _ S0.out.cur).mono ?_);rintro e w1 ⟨rfl,x1⟩;have S1:=hid (S0.out.ext x1);clear k1 kz kl;have k1:=S1.out.cur.c1;have kz:=S1.out.cur.fz;have kl:=S1.out.cur.lt;have O1:=hid (O0.out.ext fam_it x1);clear x1))
        | (go_at_call 76;((with_reducible refine (CX.out _ S1.out.cur).mono ?_);rintro e w2 ⟨v2,rfl,⟨A3,n3,c3,rfl,s2⟩,m2⟩;have S2:=hid (S1.out.go H.out m2 hk2n);clear k1 kz kl;have k1:=S2.out.cur.c1;have kz:=S2.out.cur.fz;have kl:=S2.out.cur.lt;have O2:=hid (O1.out.mv fam_it m2 hB);have Y2:=hid (spans_lt s2);have CL2:=hid (O1.out.clear S1.out.mv.size w2);have S3:=hid (S2.out.ext ((Ext.refl _).alloc (.cells #[.int .i64 2,.int .i32 0,.slice A3 n3 c3,.string ⟨#[]⟩] 193)));have O3:=hid (O2.out.ext fam_it ((Ext.refl _).alloc (.cells #[.int .i64 2,.int .i32 0,.slice A3 n3 c3,.string ⟨#[]⟩] 193)));clear s2;clear m2))
        | (at_builtin;refine wpList_row fam_it T_item (by omega) rfl (.tmp 43) (.tmp 49) rfl rfl O3.out rfl (it_one (x:=⟨2,0,xs,.empty⟩) _ ⟨ik2,ir0,Nat.zero_le _,Y2.out⟩) ((CL2.out.more (by simp))) (by rw[HQ0.out];omega) (S3.out.mv.size) ?_;intro v4 w4 o4 g4;have S4:=hid (Cr.mk (H.out.mv (RowR.mvg S3.out.mv O3.out g4) hk2n) (RowR.mvg S3.out.mv O3.out g4));obtain⟨A4,c4,rfl⟩:=o4.form;rw[HQ.out] at o4 ⊢;have O4:=hid o4;clear o4 g4;clear k1 kz kl;have k1:=S4.out.cur.c1;have kz:=S4.out.cur.fz;have kl:=S4.out.cur.lt)
        | (go_at_call 44;((with_reducible refine (CF.out _).mono ?_);rintro e wz ⟨rfl,rfl⟩)))
       exact⟨rfl,rfl,_,S4.out.mv⟩
      ·rw[if_neg (by rw[HQ.out];exact h20)] at hT;have HN:=hid hT;clear hT;have CS:=hid (fun W (hW:CurAt W B A n c L (k2))=>space_any B A n c L (k2) W hW);generalize spaceF L (k2)=j2 at *
       go_wp2_with (first
        | (go_at_call 46;((with_reducible refine (CP.out _ S0.out.cur).mono ?_);rintro e w1 ⟨rfl,x1⟩;have S1:=hid (S0.out.ext x1);clear k1 kz kl;have k1:=S1.out.cur.c1;have kz:=S1.out.cur.fz;have kl:=S1.out.cur.lt;have O1:=hid (O0.out.ext fam_it x1);clear x1))
        | (go_at_call 76;((with_reducible refine (CX.out _ S1.out.cur).mono ?_);rintro e w2 ⟨v2,rfl,⟨A3,n3,c3,rfl,s2⟩,m2⟩;have S2:=hid (S1.out.go H.out m2 hk2n);clear k1 kz kl;have k1:=S2.out.cur.c1;have kz:=S2.out.cur.fz;have kl:=S2.out.cur.lt;have O2:=hid (O1.out.mv fam_it m2 hB);have Y2:=hid (spans_lt s2);have CL2:=hid (O1.out.clear S1.out.mv.size w2);have S3:=hid (S2.out.ext ((Ext.refl _).alloc (.cells #[.int .i64 2,.int .i32 0,.slice A3 n3 c3,.string ⟨#[]⟩] 193)));have O3:=hid (O2.out.ext fam_it ((Ext.refl _).alloc (.cells #[.int .i64 2,.int .i32 0,.slice A3 n3 c3,.string ⟨#[]⟩] 193)));clear s2;clear m2))
        | (at_builtin;refine wpList_row fam_it T_item (by omega) rfl (.tmp 43) (.tmp 49) rfl rfl O3.out rfl (it_one (x:=⟨2,0,xs,.empty⟩) _ ⟨ik2,ir0,Nat.zero_le _,Y2.out⟩) ((CL2.out.more (by simp))) (by rw[HQ0.out];omega) (S3.out.mv.size) ?_;intro v4 w4 o4 g4;have S4:=hid (Cr.mk (H.out.mv (RowR.mvg S3.out.mv O3.out g4) hk2n) (RowR.mvg S3.out.mv O3.out g4));obtain⟨A4,c4,rfl⟩:=o4.form;rw[HQ.out] at o4 ⊢;have O4:=hid o4;clear o4 g4;clear k1 kz kl;have k1:=S4.out.cur.c1;have kz:=S4.out.cur.fz;have kl:=S4.out.cur.lt)
        | (go_at_call 45;((with_reducible refine (CS.out _ S4.out.cur).mono ?_);rintro e w5 ⟨rfl,m5⟩;have S5:=hid (S4.out.go H.out m5 hsp);clear k1 kz kl;have k1:=S5.out.cur.c1;have kz:=S5.out.cur.fz;have kl:=S5.out.cur.lt;have O5:=hid (O4.out.mv fam_it m5 hB);clear m5)))
       have HA2:=hid S5.out.cur.at_;go_roundw;case rel=>exact⟨f,j2,_,_,_,_,_,HQ,rfl,rfl,hid (by have:=HF.out;have:=HSG.out;omega),hsp,by omega,by omega,by omega,HN,S5,O5⟩
       case measure=>have e1:=HA.out;have e2:=HA2.out;have:=HSG.out;rw[e1,e2];omega
    ·rw[if_neg h91] at hT;have n91:(lookF L j==91)=false:=by simpa using h91
     by_cases h36:lookF L j=36/\letterB (lookF L (j+1))=true
     ·rw[if_pos h36] at hT;rw[h36.1] at CP;have hj1:j<n:=by have:=look_lt' h36.1 (by omega);have:=HL.out;omega
      have CL:=hid (fun W (hW:CurAt W B A n c L j)=>show Calls Tryz.prog 75 #[.pointer (some ⟨B,0,none⟩),.int .i64 1] W fun e w'=>e=.returned (.int .i32 (lookF L (j+1)))/\Ext W w' from by simpa using Look_any B A n c L j 1 W hW (by omega));have CLt:=hid (fun W=>letter_any (lookF L (j+1)) W);rw[h36.2] at CLt;have CX:=hid (fun W (hW:CurAt W B A n c L (j+1))=>name_any B A n c L (j+1) W hW);generalize lookF L (j+1)=r2 at *;clear hbg n124 n91 h124 h91 h36;have HV:=nameF_adv (L:=L) (k:=j+1) (by have:=HL.out;omega)
      cases hX:nameF L (j+1) with
      | fail er qe=>
       rw[hX] at hT CX;simp only[PR.bind] at hT;subst hT;clear hX HV
       go_wp2_with (first
        | (go_at_call 46;((with_reducible refine (CP.out _ S0.out.cur).mono ?_);rintro e w1 ⟨rfl,x1⟩;have S1:=hid (S0.out.ext x1);clear k1 kz kl;have k1:=S1.out.cur.c1;have kz:=S1.out.cur.fz;have kl:=S1.out.cur.lt;have O1:=hid (O0.out.ext fam_it x1);clear x1))
        | (go_at_call 75;((with_reducible refine (CL.out _ S1.out.cur).mono ?_);rintro e w2 ⟨rfl,x2⟩;have S2:=hid (S1.out.ext x2);clear k1 kz kl;have k1:=S2.out.cur.c1;have kz:=S2.out.cur.fz;have kl:=S2.out.cur.lt;have O2:=hid (O1.out.ext fam_it x2);have S3:=hid (S2.out.step H.out (x:=(j:Int)+1) (i:=j+1) (by omega) (by omega));have O3:=hid (O2.out.step fam_it hB (x:=.int .i64 ((j:Int)+1)));clear x2))
        | (go_at_call 149;((with_reducible refine (CLt.out _).mono ?_);rintro e w3 ⟨rfl,rfl⟩))
        | (go_at_call 79;((with_reducible refine (CX.out _ S3.out.cur).mono ?_);rintro e wz ⟨rfl,qz,mz⟩;have MZ:=hid (S3.out.mv.trans H.out mz);clear mz)))
       exact⟨rfl,rfl,_,MZ.out⟩
      | ok xs k2=>
       have hk2:=HV _ _ hX;have hk2n:k2<=n:=by have:=HL.out;omega
       rw[hX] at hT CX;simp only[PR.bind] at hT
       try dsimp only at hT
       obtain⟨q2,hq2⟩:∃ q2,(out++[(⟨3,0,[],xs⟩:It)]).length=q2:=⟨_,rfl⟩
       have HQ:=hid hq2;clear hX HV hq2;have hsp:spaceF L (k2)<=n:=by have:=spaceF_le (L:=L) (k:=k2) (by have:=HL.out;omega);have:=HL.out;omega
       have HSG:Hid (k2<=spaceF L (k2)):=hid spaceF_ge;by_cases h20:20<q2
       ·rw[if_pos (by rw[HQ.out];exact h20)] at hT;subst hT;have CF:=hid (fun W=>Fail_any 5 j W)
        go_wp2_with (first
         | (go_at_call 46;((with_reducible refine (CP.out _ S0.out.cur).mono ?_);rintro e w1 ⟨rfl,x1⟩;have S1:=hid (S0.out.ext x1);clear k1 kz kl;have k1:=S1.out.cur.c1;have kz:=S1.out.cur.fz;have kl:=S1.out.cur.lt;have O1:=hid (O0.out.ext fam_it x1);clear x1))
         | (go_at_call 75;((with_reducible refine (CL.out _ S1.out.cur).mono ?_);rintro e w2 ⟨rfl,x2⟩;have S2:=hid (S1.out.ext x2);clear k1 kz kl;have k1:=S2.out.cur.c1;have kz:=S2.out.cur.fz;have kl:=S2.out.cur.lt;have O2:=hid (O1.out.ext fam_it x2);have S3:=hid (S2.out.step H.out (x:=(j:Int)+1) (i:=j+1) (by omega) (by omega));have O3:=hid (O2.out.step fam_it hB (x:=.int .i64 ((j:Int)+1)));clear x2))
         | (go_at_call 149;((with_reducible refine (CLt.out _).mono ?_);rintro e w3 ⟨rfl,rfl⟩))
         | (go_at_call 79;((with_reducible refine (CX.out _ S3.out.cur).mono ?_);rintro e w4 ⟨v4,rfl,⟨rfl,hns⟩,m4⟩;have S4:=hid (S3.out.go H.out m4 hk2n);clear k1 kz kl;have k1:=S4.out.cur.c1;have kz:=S4.out.cur.fz;have kl:=S4.out.cur.lt;have O4:=hid (O3.out.mv fam_it m4 hB);have HNS:=hid hns;clear hns;have S5:=hid (S4.out.ext ((Ext.refl _).alloc (.cells #[.int .i64 3,.int .i32 0,.slice none 0 0,.string xs] 193)));have O5:=hid (O4.out.ext fam_it ((Ext.refl _).alloc (.cells #[.int .i64 3,.int .i32 0,.slice none 0 0,.string xs] 193)));clear m4))
         | (at_builtin;refine wpList_row fam_it T_item (by omega) rfl (.tmp 70) (.tmp 74) rfl rfl O5.out rfl (it_one (tk:=bot) (x:=⟨3,0,[],xs⟩) _ ⟨ik3,ir0,Nat.le_trans HNS.out (by unfold maxLen;omega),SlR.nil _ _ _ _ _ _ (by unfold maxLen;omega)⟩) (Clear.bot _ _ _) (by rw[HQ0.out];omega) (S5.out.mv.size) ?_;intro v6 w6 o6 g6;have S6:=hid (Cr.mk (H.out.mv (RowR.mvg S5.out.mv O5.out g6) hk2n) (RowR.mvg S5.out.mv O5.out g6));obtain⟨A6,c6,rfl⟩:=o6.form;rw[HQ.out] at o6 ⊢;have O6:=hid o6;clear o6 g6;clear k1 kz kl;have k1:=S6.out.cur.c1;have kz:=S6.out.cur.fz;have kl:=S6.out.cur.lt)
         | (go_at_call 44;((with_reducible refine (CF.out _).mono ?_);rintro e wz ⟨rfl,rfl⟩)))
        exact⟨rfl,rfl,_,S6.out.mv⟩
       ·rw[if_neg (by rw[HQ.out];exact h20)] at hT;have HN:=hid hT;clear hT;have CS:=hid (fun W (hW:CurAt W B A n c L (k2))=>space_any B A n c L (k2) W hW);generalize spaceF L (k2)=j2 at *
        go_wp2_with (first
         | (go_at_call 46;((with_reducible refine (CP.out _ S0.out.cur).mono ?_);rintro e w1 ⟨rfl,x1⟩;have S1:=hid (S0.out.ext x1);clear k1 kz kl;have k1:=S1.out.cur.c1;have kz:=S1.out.cur.fz;have kl:=S1.out.cur.lt;have O1:=hid (O0.out.ext fam_it x1);clear x1))
         | (go_at_call 75;((with_reducible refine (CL.out _ S1.out.cur).mono ?_);rintro e w2 ⟨rfl,x2⟩;have S2:=hid (S1.out.ext x2);clear k1 kz kl;have k1:=S2.out.cur.c1;have kz:=S2.out.cur.fz;have kl:=S2.out.cur.lt;have O2:=hid (O1.out.ext fam_it x2);have S3:=hid (S2.out.step H.out (x:=(j:Int)+1) (i:=j+1) (by omega) (by omega));have O3:=hid (O2.out.step fam_it hB (x:=.int .i64 ((j:Int)+1)));clear x2))
         | (go_at_call 149;((with_reducible refine (CLt.out _).mono ?_);rintro e w3 ⟨rfl,rfl⟩))
         | (go_at_call 79;((with_reducible refine (CX.out _ S3.out.cur).mono ?_);rintro e w4 ⟨v4,rfl,⟨rfl,hns⟩,m4⟩;have S4:=hid (S3.out.go H.out m4 hk2n);clear k1 kz kl;have k1:=S4.out.cur.c1;have kz:=S4.out.cur.fz;have kl:=S4.out.cur.lt;have O4:=hid (O3.out.mv fam_it m4 hB);have HNS:=hid hns;clear hns;have S5:=hid (S4.out.ext ((Ext.refl _).alloc (.cells #[.int .i64 3,.int .i32 0,.slice none 0 0,.string xs] 193)));have O5:=hid (O4.out.ext fam_it ((Ext.refl _).alloc (.cells #[.int .i64 3,.int .i32 0,.slice none 0 0,.string xs] 193)));clear m4))
         | (at_builtin;refine wpList_row fam_it T_item (by omega) rfl (.tmp 70) (.tmp 74) rfl rfl O5.out rfl (it_one (tk:=bot) (x:=⟨3,0,[],xs⟩) _ ⟨ik3,ir0,Nat.le_trans HNS.out (by unfold maxLen;omega),SlR.nil _ _ _ _ _ _ (by unfold maxLen;omega)⟩) (Clear.bot _ _ _) (by rw[HQ0.out];omega) (S5.out.mv.size) ?_;intro v6 w6 o6 g6;have S6:=hid (Cr.mk (H.out.mv (RowR.mvg S5.out.mv O5.out g6) hk2n) (RowR.mvg S5.out.mv O5.out g6));obtain⟨A6,c6,rfl⟩:=o6.form;rw[HQ.out] at o6 ⊢;have O6:=hid o6;clear o6 g6;clear k1 kz kl;have k1:=S6.out.cur.c1;have kz:=S6.out.cur.fz;have kl:=S6.out.cur.lt)
         | (go_at_call 45;((with_reducible refine (CS.out _ S6.out.cur).mono ?_);rintro e w7 ⟨rfl,m7⟩;have S7:=hid (S6.out.go H.out m7 hsp);clear k1 kz kl;have k1:=S7.out.cur.c1;have kz:=S7.out.cur.fz;have kl:=S7.out.cur.lt;have O7:=hid (O6.out.mv fam_it m7 hB);clear m7)))
        have HA2:=hid S7.out.cur.at_;go_roundw;case rel=>exact⟨f,j2,_,_,_,_,_,HQ,rfl,rfl,hid (by have:=HF.out;have:=HSG.out;omega),hsp,by omega,by omega,by omega,HN,S7,O7⟩
        case measure=>have e1:=HA.out;have e2:=HA2.out;have:=HSG.out;rw[e1,e2];omega
     ·rw[if_neg h36] at hT;by_cases h39:lookF L j=39
      ·rw[if_pos h39] at hT;rw[h39] at CP;have hj1:j<n:=by have:=look_lt' h39 (by omega);have:=HL.out;omega
       have CX:=hid (fun W (hW:CurAt W B A n c L j)=>quoted_any B A n c L j W hW hj1 (by omega));clear hbg n124 n91 h124 h91 h36 h39;have HV:=quotedF_adv (L:=L) (L.length+1) [] (j+1) (by have:=HL.out;omega)
       cases hX:quotedF L (L.length+1) [] (j+1) with
       | fail er qe=>
        rw[hX] at hT CX;simp only[PR.bind] at hT;subst hT;clear hX HV
        go_wp2_with (first
         | (go_at_call 46;((with_reducible refine (CP.out _ S0.out.cur).mono ?_);rintro e w1 ⟨rfl,x1⟩;have S1:=hid (S0.out.ext x1);clear k1 kz kl;have k1:=S1.out.cur.c1;have kz:=S1.out.cur.fz;have kl:=S1.out.cur.lt;have O1:=hid (O0.out.ext fam_it x1);clear x1))
         | (go_at_call 150;((with_reducible refine (CX.out _ S1.out.cur).mono ?_);rintro e wz ⟨rfl,qz,mz⟩;have MZ:=hid (S1.out.mv.trans H.out mz);clear mz)))
        exact⟨rfl,rfl,_,MZ.out⟩
       | ok xs k2=>
        have hk2:=HV _ _ hX;have hk2n:k2<=n:=by have:=HL.out;omega
        rw[hX] at hT CX;simp only[PR.bind] at hT
        try dsimp only at hT
        obtain⟨q2,hq2⟩:∃ q2,(out++xs).length=q2:=⟨_,rfl⟩
        have HQ:=hid hq2;have hql:=quotedF_len _ _ _ _ _ hX;have hql:xs.length<=16000:=by simp at hql;omega
        clear hX HV hq2;have hsp:spaceF L (k2)<=n:=by have:=spaceF_le (L:=L) (k:=k2) (by have:=HL.out;omega);have:=HL.out;omega
        have HSG:Hid (k2<=spaceF L (k2)):=hid spaceF_ge;by_cases h20:20<q2
        ·rw[if_pos (by rw[HQ.out];exact h20)] at hT;subst hT;have CF:=hid (fun W=>Fail_any 5 j W)
         go_wp2_with (first
          | (go_at_call 46;((with_reducible refine (CP.out _ S0.out.cur).mono ?_);rintro e w1 ⟨rfl,x1⟩;have S1:=hid (S0.out.ext x1);clear k1 kz kl;have k1:=S1.out.cur.c1;have kz:=S1.out.cur.fz;have kl:=S1.out.cur.lt;have O1:=hid (O0.out.ext fam_it x1);clear x1))
          | (go_at_call 150;((with_reducible refine (CX.out _ S1.out.cur).mono ?_);rintro e w2 ⟨v2,rfl,s2,m2⟩;have S2:=hid (S1.out.go H.out m2 hk2n);clear k1 kz kl;have k1:=S2.out.cur.c1;have kz:=S2.out.cur.fz;have kl:=S2.out.cur.lt;have O2:=hid (O1.out.mv fam_it m2 hB);obtain⟨A3,c3,rfl,y2⟩:=s2.src fam_it;have Y2:=hid y2;have CL2:=hid (O1.out.clear S1.out.mv.size w2);clear s2 y2;clear m2))
          | (at_builtin;refine wpList_row fam_it T_item (by omega) rfl (.tmp 79) (.tmp 81) rfl rfl O2.out rfl (Y2.out) (CL2.out) (by rw[HQ0.out];omega) (S2.out.mv.size) ?_;intro v4 w4 o4 g4;have S4:=hid (Cr.mk (H.out.mv (RowR.mvg S2.out.mv O2.out g4) hk2n) (RowR.mvg S2.out.mv O2.out g4));obtain⟨A4,c4,rfl⟩:=o4.form;rw[HQ.out] at o4 ⊢;have O4:=hid o4;clear o4 g4;clear k1 kz kl;have k1:=S4.out.cur.c1;have kz:=S4.out.cur.fz;have kl:=S4.out.cur.lt)
          | (go_at_call 44;((with_reducible refine (CF.out _).mono ?_);rintro e wz ⟨rfl,rfl⟩)))
         exact⟨rfl,rfl,_,S4.out.mv⟩
        ·rw[if_neg (by rw[HQ.out];exact h20)] at hT;have HN:=hid hT;clear hT;have CS:=hid (fun W (hW:CurAt W B A n c L (k2))=>space_any B A n c L (k2) W hW);generalize spaceF L (k2)=j2 at *
         go_wp2_with (first
          | (go_at_call 46;((with_reducible refine (CP.out _ S0.out.cur).mono ?_);rintro e w1 ⟨rfl,x1⟩;have S1:=hid (S0.out.ext x1);clear k1 kz kl;have k1:=S1.out.cur.c1;have kz:=S1.out.cur.fz;have kl:=S1.out.cur.lt;have O1:=hid (O0.out.ext fam_it x1);clear x1))
          | (go_at_call 150;((with_reducible refine (CX.out _ S1.out.cur).mono ?_);rintro e w2 ⟨v2,rfl,s2,m2⟩;have S2:=hid (S1.out.go H.out m2 hk2n);clear k1 kz kl;have k1:=S2.out.cur.c1;have kz:=S2.out.cur.fz;have kl:=S2.out.cur.lt;have O2:=hid (O1.out.mv fam_it m2 hB);obtain⟨A3,c3,rfl,y2⟩:=s2.src fam_it;have Y2:=hid y2;have CL2:=hid (O1.out.clear S1.out.mv.size w2);clear s2 y2;clear m2))
          | (at_builtin;refine wpList_row fam_it T_item (by omega) rfl (.tmp 79) (.tmp 81) rfl rfl O2.out rfl (Y2.out) (CL2.out) (by rw[HQ0.out];omega) (S2.out.mv.size) ?_;intro v4 w4 o4 g4;have S4:=hid (Cr.mk (H.out.mv (RowR.mvg S2.out.mv O2.out g4) hk2n) (RowR.mvg S2.out.mv O2.out g4));obtain⟨A4,c4,rfl⟩:=o4.form;rw[HQ.out] at o4 ⊢;have O4:=hid o4;clear o4 g4;clear k1 kz kl;have k1:=S4.out.cur.c1;have kz:=S4.out.cur.fz;have kl:=S4.out.cur.lt)
          | (go_at_call 45;((with_reducible refine (CS.out _ S4.out.cur).mono ?_);rintro e w5 ⟨rfl,m5⟩;have S5:=hid (S4.out.go H.out m5 hsp);clear k1 kz kl;have k1:=S5.out.cur.c1;have kz:=S5.out.cur.fz;have kl:=S5.out.cur.lt;have O5:=hid (O4.out.mv fam_it m5 hB);clear m5)))
         have HA2:=hid S5.out.cur.at_;go_roundw;case rel=>exact⟨f,j2,_,_,_,_,_,HQ,rfl,rfl,hid (by have:=HF.out;have:=HSG.out;omega),hsp,by omega,by omega,by omega,HN,S5,O5⟩
         case measure=>have e1:=HA.out;have e2:=HA2.out;have:=HSG.out;rw[e1,e2];omega
      ·rw[if_neg h39] at hT;have n39:(lookF L j==39)=false:=by simpa using h39
       have hpl:lookF L j=92\/((lookF L j==92)=false/\plainB (lookF L j)=true):=by
        unfold beginsB at hbg;rw[n124,n91,n39] at hbg
        have e36:(lookF L j==36&&letterB (lookF L (j+1)))=false:=by
         cases hb:(lookF L j==36&&letterB (lookF L (j+1)))
         ·rfl
         ·rw[Bool.and_eq_true] at hb;exact absurd ⟨by simpa using hb.1,hb.2⟩ h36
        rw[e36] at hbg;by_cases h92:lookF L j=92
        ·exact .inl h92
        ·exact .inr ⟨by simpa using h92,by simpa [h92] using hbg⟩
       have hj1:j<n:=by
        rcases hpl with hp | ⟨_,hp⟩
        ·have:=look_lt' hp (by omega);have:=HL.out;omega
        ·have:=scanF_lt plain_end hp;have:=HL.out;omega
       have CX:=hid (fun W (hW:CurAt W B A n c L j)=>Char_any B A n c L j W hW);have HCI:Hid (∀ a k,charF L j=.ok a k->i32 a):=hid (fun a k hX=>charF_i32 HI.out hX);have hadv:=charF_adv (L:=L) (k:=j);have CPl:=hid (fun W=>Plain_any (lookF L j) W (lookF_i32 HI.out j));clear hbg n124 n91 n39 h124 h91 h36 h39;generalize charF L j=X at *;rcases hpl with h92 | ⟨n92,hpl⟩
       ·rw[h92] at CP;clear CPl;have HV:=hadv
        cases hX:X with
        | fail er qe=>
         rw[hX] at hT CX;simp only[PR.bind] at hT;subst hT;clear hX HV
         go_wp2_with (first
          | (go_at_call 46;((with_reducible refine (CP.out _ S0.out.cur).mono ?_);rintro e w1 ⟨rfl,x1⟩;have S1:=hid (S0.out.ext x1);clear k1 kz kl;have k1:=S1.out.cur.c1;have kz:=S1.out.cur.fz;have kl:=S1.out.cur.lt;have O1:=hid (O0.out.ext fam_it x1);clear x1))
          | (go_at_call 148;((with_reducible refine (CX.out _ S1.out.cur).mono ?_);rintro e wz ⟨rfl,qz,mz⟩;have MZ:=hid (S1.out.mv.trans H.out mz);clear mz)))
         exact⟨rfl,rfl,_,MZ.out⟩
        | ok xs k2=>
         have hk2:=HV _ _ hX;have hk2n:k2<=n:=by have:=HL.out;omega
         rw[hX] at hT CX;simp only[PR.bind] at hT
         try dsimp only at hT
         have hxi:=HCI.out _ _ hX;cases hrt:right xs
         ·have HRT:=hid hrt;rw[hrt] at hT;simp only[Bool.false_eq_true,if_false,PR.bind] at hT;subst hT;have CF:=hid (fun W=>Fail_any 3 j W);clear hX HV hrt
          go_wp2_with (first
           | (go_at_call 46;((with_reducible refine (CP.out _ S0.out.cur).mono ?_);rintro e w1 ⟨rfl,x1⟩;have S1:=hid (S0.out.ext x1);clear k1 kz kl;have k1:=S1.out.cur.c1;have kz:=S1.out.cur.fz;have kl:=S1.out.cur.lt;have O1:=hid (O0.out.ext fam_it x1);clear x1))
           | (go_at_call 148;((with_reducible refine (CX.out _ S1.out.cur).mono ?_);rintro e w2 ⟨v2,rfl,rfl,m2⟩;have S2:=hid (S1.out.go H.out m2 hk2n);clear k1 kz kl;have k1:=S2.out.cur.c1;have kz:=S2.out.cur.fz;have kl:=S2.out.cur.lt;have O2:=hid (O1.out.mv fam_it m2 hB);clear m2))
           | (go_at_call 55;((refine (Right_any _ _).mono ?_);rintro e wt ⟨rfl,rfl⟩;rw[HRT.out]))
           | (go_at_call 44;((with_reducible refine (CF.out _).mono ?_);rintro e wz ⟨rfl,rfl⟩)))
          exact⟨rfl,rfl,_,S2.out.mv⟩
         ·have HRT:=hid hrt;rw[hrt] at hT;simp only[if_true,PR.bind] at hT
          try dsimp only at hT
          obtain⟨q2,hq2⟩:∃ q2,(out++[(⟨1,xs,[],.empty⟩:It)]).length=q2:=⟨_,rfl⟩
          have HQ:=hid hq2;have HXI:=hid hxi;clear hX HV hq2 hrt hxi;have hsp:spaceF L (k2)<=n:=by have:=spaceF_le (L:=L) (k:=k2) (by have:=HL.out;omega);have:=HL.out;omega
          have HSG:Hid (k2<=spaceF L (k2)):=hid spaceF_ge;by_cases h20:20<q2
          ·rw[if_pos (by rw[HQ.out];exact h20)] at hT;subst hT;have CF:=hid (fun W=>Fail_any 5 j W)
           go_wp2_with (first
            | (go_at_call 46;((with_reducible refine (CP.out _ S0.out.cur).mono ?_);rintro e w1 ⟨rfl,x1⟩;have S1:=hid (S0.out.ext x1);clear k1 kz kl;have k1:=S1.out.cur.c1;have kz:=S1.out.cur.fz;have kl:=S1.out.cur.lt;have O1:=hid (O0.out.ext fam_it x1);clear x1))
            | (go_at_call 148;((with_reducible refine (CX.out _ S1.out.cur).mono ?_);rintro e w2 ⟨v2,rfl,rfl,m2⟩;have S2:=hid (S1.out.go H.out m2 hk2n);clear k1 kz kl;have k1:=S2.out.cur.c1;have kz:=S2.out.cur.fz;have kl:=S2.out.cur.lt;have O2:=hid (O1.out.mv fam_it m2 hB);have S3:=hid (S2.out.ext ((Ext.refl _).alloc (.cells #[.int .i64 1,.int .i32 xs,.slice none 0 0,.string ⟨#[]⟩] 193)));have O3:=hid (O2.out.ext fam_it ((Ext.refl _).alloc (.cells #[.int .i64 1,.int .i32 xs,.slice none 0 0,.string ⟨#[]⟩] 193)));clear m2))
            | (go_at_call 55;((refine (Right_any _ _).mono ?_);rintro e wt ⟨rfl,rfl⟩;rw[HRT.out]))
            | (at_builtin;refine wpList_row fam_it T_item (by omega) rfl (.tmp 99) (.tmp 102) rfl rfl O3.out rfl (it_one (tk:=bot) (x:=⟨1,xs,[],.empty⟩) _ ⟨ik1,HXI.out,Nat.zero_le _,SlR.nil _ _ _ _ _ _ (by unfold maxLen;omega)⟩) (Clear.bot _ _ _) (by rw[HQ0.out];omega) (S3.out.mv.size) ?_;intro v4 w4 o4 g4;have S4:=hid (Cr.mk (H.out.mv (RowR.mvg S3.out.mv O3.out g4) hk2n) (RowR.mvg S3.out.mv O3.out g4));obtain⟨A4,c4,rfl⟩:=o4.form;rw[HQ.out] at o4 ⊢;have O4:=hid o4;clear o4 g4;clear k1 kz kl;have k1:=S4.out.cur.c1;have kz:=S4.out.cur.fz;have kl:=S4.out.cur.lt)
            | (go_at_call 44;((with_reducible refine (CF.out _).mono ?_);rintro e wz ⟨rfl,rfl⟩)))
           exact⟨rfl,rfl,_,S4.out.mv⟩
          ·rw[if_neg (by rw[HQ.out];exact h20)] at hT;have HN:=hid hT;clear hT;have CS:=hid (fun W (hW:CurAt W B A n c L (k2))=>space_any B A n c L (k2) W hW);generalize spaceF L (k2)=j2 at *
           go_wp2_with (first
            | (go_at_call 46;((with_reducible refine (CP.out _ S0.out.cur).mono ?_);rintro e w1 ⟨rfl,x1⟩;have S1:=hid (S0.out.ext x1);clear k1 kz kl;have k1:=S1.out.cur.c1;have kz:=S1.out.cur.fz;have kl:=S1.out.cur.lt;have O1:=hid (O0.out.ext fam_it x1);clear x1))
            | (go_at_call 148;((with_reducible refine (CX.out _ S1.out.cur).mono ?_);rintro e w2 ⟨v2,rfl,rfl,m2⟩;have S2:=hid (S1.out.go H.out m2 hk2n);clear k1 kz kl;have k1:=S2.out.cur.c1;have kz:=S2.out.cur.fz;have kl:=S2.out.cur.lt;have O2:=hid (O1.out.mv fam_it m2 hB);have S3:=hid (S2.out.ext ((Ext.refl _).alloc (.cells #[.int .i64 1,.int .i32 xs,.slice none 0 0,.string ⟨#[]⟩] 193)));have O3:=hid (O2.out.ext fam_it ((Ext.refl _).alloc (.cells #[.int .i64 1,.int .i32 xs,.slice none 0 0,.string ⟨#[]⟩] 193)));clear m2))
            | (go_at_call 55;((refine (Right_any _ _).mono ?_);rintro e wt ⟨rfl,rfl⟩;rw[HRT.out]))
            | (at_builtin;refine wpList_row fam_it T_item (by omega) rfl (.tmp 99) (.tmp 102) rfl rfl O3.out rfl (it_one (tk:=bot) (x:=⟨1,xs,[],.empty⟩) _ ⟨ik1,HXI.out,Nat.zero_le _,SlR.nil _ _ _ _ _ _ (by unfold maxLen;omega)⟩) (Clear.bot _ _ _) (by rw[HQ0.out];omega) (S3.out.mv.size) ?_;intro v4 w4 o4 g4;have S4:=hid (Cr.mk (H.out.mv (RowR.mvg S3.out.mv O3.out g4) hk2n) (RowR.mvg S3.out.mv O3.out g4));obtain⟨A4,c4,rfl⟩:=o4.form;rw[HQ.out] at o4 ⊢;have O4:=hid o4;clear o4 g4;clear k1 kz kl;have k1:=S4.out.cur.c1;have kz:=S4.out.cur.fz;have kl:=S4.out.cur.lt)
            | (go_at_call 45;((with_reducible refine (CS.out _ S4.out.cur).mono ?_);rintro e w5 ⟨rfl,m5⟩;have S5:=hid (S4.out.go H.out m5 hsp);clear k1 kz kl;have k1:=S5.out.cur.c1;have kz:=S5.out.cur.fz;have kl:=S5.out.cur.lt;have O5:=hid (O4.out.mv fam_it m5 hB);clear m5)))
           have HA2:=hid S5.out.cur.at_;go_roundw;case rel=>exact⟨f,j2,_,_,_,_,_,HQ,rfl,rfl,hid (by have:=HF.out;have:=HSG.out;omega),hsp,by omega,by omega,by omega,HN,S5,O5⟩
           case measure=>have e1:=HA.out;have e2:=HA2.out;have:=HSG.out;rw[e1,e2];omega
       ·obtain⟨n124,n91,n36,n39,_⟩:=plain_ne hpl;rw[hpl] at CPl;generalize lookF L j=r at *;clear hpl;have HV:=hadv
        cases hX:X with
        | fail er qe=>
         rw[hX] at hT CX;simp only[PR.bind] at hT;subst hT;clear hX HV
         go_wp2_with (first
          | (go_at_call 46;((with_reducible refine (CP.out _ S0.out.cur).mono ?_);rintro e w1 ⟨rfl,x1⟩;have S1:=hid (S0.out.ext x1);clear k1 kz kl;have k1:=S1.out.cur.c1;have kz:=S1.out.cur.fz;have kl:=S1.out.cur.lt;have O1:=hid (O0.out.ext fam_it x1);clear x1))
          | (go_at_call 144;((with_reducible refine (CPl.out _).mono ?_);rintro e w2 ⟨rfl,x2⟩;have S2:=hid (S1.out.ext x2);have O2:=hid (O1.out.ext fam_it x2);clear k1 kz kl;have k1:=S2.out.cur.c1;have kz:=S2.out.cur.fz;have kl:=S2.out.cur.lt;clear x2))
          | (go_at_call 148;((with_reducible refine (CX.out _ S2.out.cur).mono ?_);rintro e wz ⟨rfl,qz,mz⟩;have MZ:=hid (S2.out.mv.trans H.out mz);clear mz)))
         exact⟨rfl,rfl,_,MZ.out⟩
        | ok xs k2=>
         have hk2:=HV _ _ hX;have hk2n:k2<=n:=by have:=HL.out;omega
         rw[hX] at hT CX;simp only[PR.bind] at hT
         try dsimp only at hT
         have hxi:=HCI.out _ _ hX;cases hrt:right xs
         ·have HRT:=hid hrt;rw[hrt] at hT;simp only[Bool.false_eq_true,if_false,PR.bind] at hT;subst hT;have CF:=hid (fun W=>Fail_any 3 j W);clear hX HV hrt
          go_wp2_with (first
           | (go_at_call 46;((with_reducible refine (CP.out _ S0.out.cur).mono ?_);rintro e w1 ⟨rfl,x1⟩;have S1:=hid (S0.out.ext x1);clear k1 kz kl;have k1:=S1.out.cur.c1;have kz:=S1.out.cur.fz;have kl:=S1.out.cur.lt;have O1:=hid (O0.out.ext fam_it x1);clear x1))
           | (go_at_call 144;((with_reducible refine (CPl.out _).mono ?_);rintro e w2 ⟨rfl,x2⟩;have S2:=hid (S1.out.ext x2);have O2:=hid (O1.out.ext fam_it x2);clear k1 kz kl;have k1:=S2.out.cur.c1;have kz:=S2.out.cur.fz;have kl:=S2.out.cur.lt;clear x2))
           | (go_at_call 148;((with_reducible refine (CX.out _ S2.out.cur).mono ?_);rintro e w3 ⟨v3,rfl,rfl,m3⟩;have S3:=hid (S2.out.go H.out m3 hk2n);clear k1 kz kl;have k1:=S3.out.cur.c1;have kz:=S3.out.cur.fz;have kl:=S3.out.cur.lt;have O3:=hid (O2.out.mv fam_it m3 hB);clear m3))
           | (go_at_call 55;((refine (Right_any _ _).mono ?_);rintro e wt ⟨rfl,rfl⟩;rw[HRT.out]))
           | (go_at_call 44;((with_reducible refine (CF.out _).mono ?_);rintro e wz ⟨rfl,rfl⟩)))
          exact⟨rfl,rfl,_,S3.out.mv⟩
         ·have HRT:=hid hrt;rw[hrt] at hT;simp only[if_true,PR.bind] at hT
          try dsimp only at hT
          obtain⟨q2,hq2⟩:∃ q2,(out++[(⟨1,xs,[],.empty⟩:It)]).length=q2:=⟨_,rfl⟩
          have HQ:=hid hq2;have HXI:=hid hxi;clear hX HV hq2 hrt hxi;have hsp:spaceF L (k2)<=n:=by have:=spaceF_le (L:=L) (k:=k2) (by have:=HL.out;omega);have:=HL.out;omega
          have HSG:Hid (k2<=spaceF L (k2)):=hid spaceF_ge;by_cases h20:20<q2
          ·rw[if_pos (by rw[HQ.out];exact h20)] at hT;subst hT;have CF:=hid (fun W=>Fail_any 5 j W)
           go_wp2_with (first
            | (go_at_call 46;((with_reducible refine (CP.out _ S0.out.cur).mono ?_);rintro e w1 ⟨rfl,x1⟩;have S1:=hid (S0.out.ext x1);clear k1 kz kl;have k1:=S1.out.cur.c1;have kz:=S1.out.cur.fz;have kl:=S1.out.cur.lt;have O1:=hid (O0.out.ext fam_it x1);clear x1))
            | (go_at_call 144;((with_reducible refine (CPl.out _).mono ?_);rintro e w2 ⟨rfl,x2⟩;have S2:=hid (S1.out.ext x2);have O2:=hid (O1.out.ext fam_it x2);clear k1 kz kl;have k1:=S2.out.cur.c1;have kz:=S2.out.cur.fz;have kl:=S2.out.cur.lt;clear x2))
            | (go_at_call 148;((with_reducible refine (CX.out _ S2.out.cur).mono ?_);rintro e w3 ⟨v3,rfl,rfl,m3⟩;have S3:=hid (S2.out.go H.out m3 hk2n);clear k1 kz kl;have k1:=S3.out.cur.c1;have kz:=S3.out.cur.fz;have kl:=S3.out.cur.lt;have O3:=hid (O2.out.mv fam_it m3 hB);have S4:=hid (S3.out.ext ((Ext.refl _).alloc (.cells #[.int .i64 1,.int .i32 xs,.slice none 0 0,.string ⟨#[]⟩] 193)));have O4:=hid (O3.out.ext fam_it ((Ext.refl _).alloc (.cells #[.int .i64 1,.int .i32 xs,.slice none 0 0,.string ⟨#[]⟩] 193)));clear m3))
            | (go_at_call 55;((refine (Right_any _ _).mono ?_);rintro e wt ⟨rfl,rfl⟩;rw[HRT.out]))
            | (at_builtin;refine wpList_row fam_it T_item (by omega) rfl (.tmp 99) (.tmp 102) rfl rfl O4.out rfl (it_one (tk:=bot) (x:=⟨1,xs,[],.empty⟩) _ ⟨ik1,HXI.out,Nat.zero_le _,SlR.nil _ _ _ _ _ _ (by unfold maxLen;omega)⟩) (Clear.bot _ _ _) (by rw[HQ0.out];omega) (S4.out.mv.size) ?_;intro v5 w5 o5 g5;have S5:=hid (Cr.mk (H.out.mv (RowR.mvg S4.out.mv O4.out g5) hk2n) (RowR.mvg S4.out.mv O4.out g5));obtain⟨A5,c5,rfl⟩:=o5.form;rw[HQ.out] at o5 ⊢;have O5:=hid o5;clear o5 g5;clear k1 kz kl;have k1:=S5.out.cur.c1;have kz:=S5.out.cur.fz;have kl:=S5.out.cur.lt)
            | (go_at_call 44;((with_reducible refine (CF.out _).mono ?_);rintro e wz ⟨rfl,rfl⟩)))
           exact⟨rfl,rfl,_,S5.out.mv⟩
          ·rw[if_neg (by rw[HQ.out];exact h20)] at hT;have HN:=hid hT;clear hT;have CS:=hid (fun W (hW:CurAt W B A n c L (k2))=>space_any B A n c L (k2) W hW);generalize spaceF L (k2)=j2 at *
           go_wp2_with (first
            | (go_at_call 46;((with_reducible refine (CP.out _ S0.out.cur).mono ?_);rintro e w1 ⟨rfl,x1⟩;have S1:=hid (S0.out.ext x1);clear k1 kz kl;have k1:=S1.out.cur.c1;have kz:=S1.out.cur.fz;have kl:=S1.out.cur.lt;have O1:=hid (O0.out.ext fam_it x1);clear x1))
            | (go_at_call 144;((with_reducible refine (CPl.out _).mono ?_);rintro e w2 ⟨rfl,x2⟩;have S2:=hid (S1.out.ext x2);have O2:=hid (O1.out.ext fam_it x2);clear k1 kz kl;have k1:=S2.out.cur.c1;have kz:=S2.out.cur.fz;have kl:=S2.out.cur.lt;clear x2))
            | (go_at_call 148;((with_reducible refine (CX.out _ S2.out.cur).mono ?_);rintro e w3 ⟨v3,rfl,rfl,m3⟩;have S3:=hid (S2.out.go H.out m3 hk2n);clear k1 kz kl;have k1:=S3.out.cur.c1;have kz:=S3.out.cur.fz;have kl:=S3.out.cur.lt;have O3:=hid (O2.out.mv fam_it m3 hB);have S4:=hid (S3.out.ext ((Ext.refl _).alloc (.cells #[.int .i64 1,.int .i32 xs,.slice none 0 0,.string ⟨#[]⟩] 193)));have O4:=hid (O3.out.ext fam_it ((Ext.refl _).alloc (.cells #[.int .i64 1,.int .i32 xs,.slice none 0 0,.string ⟨#[]⟩] 193)));clear m3))
            | (go_at_call 55;((refine (Right_any _ _).mono ?_);rintro e wt ⟨rfl,rfl⟩;rw[HRT.out]))
            | (at_builtin;refine wpList_row fam_it T_item (by omega) rfl (.tmp 99) (.tmp 102) rfl rfl O4.out rfl (it_one (tk:=bot) (x:=⟨1,xs,[],.empty⟩) _ ⟨ik1,HXI.out,Nat.zero_le _,SlR.nil _ _ _ _ _ _ (by unfold maxLen;omega)⟩) (Clear.bot _ _ _) (by rw[HQ0.out];omega) (S4.out.mv.size) ?_;intro v5 w5 o5 g5;have S5:=hid (Cr.mk (H.out.mv (RowR.mvg S4.out.mv O4.out g5) hk2n) (RowR.mvg S4.out.mv O4.out g5));obtain⟨A5,c5,rfl⟩:=o5.form;rw[HQ.out] at o5 ⊢;have O5:=hid o5;clear o5 g5;clear k1 kz kl;have k1:=S5.out.cur.c1;have kz:=S5.out.cur.fz;have kl:=S5.out.cur.lt)
            | (go_at_call 45;((with_reducible refine (CS.out _ S5.out.cur).mono ?_);rintro e w6 ⟨rfl,m6⟩;have S6:=hid (S5.out.go H.out m6 hsp);clear k1 kz kl;have k1:=S6.out.cur.c1;have kz:=S6.out.cur.fz;have kl:=S6.out.cur.lt;have O6:=hid (O5.out.mv fam_it m6 hB);clear m6)))
           have HA2:=hid S6.out.cur.at_;go_roundw;case rel=>exact⟨f,j2,_,_,_,_,_,HQ,rfl,rfl,hid (by have:=HF.out;have:=HSG.out;omega),hsp,by omega,by omega,by omega,HN,S6,O6⟩
           case measure=>have e1:=HA.out;have e2:=HA2.out;have:=HSG.out;rw[e1,e2];omega
end Go.Proofs.YthomjcjnalfipaaGreatDoor
