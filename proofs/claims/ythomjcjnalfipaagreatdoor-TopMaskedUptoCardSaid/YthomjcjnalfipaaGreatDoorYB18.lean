/- A part of the proofs of the Top laws. -/
import Derived.Deep.RegionHeld3
import Derived.Test.YthomjcjnalfipaaGreatDoorRows
import Derived.ProofKit
import Derived.OpenShut
import Derived.ChangeOld
import Derived.Deep.Fields
import Derived.Test.YthomjcjnalfipaaGreatDoorYB17
set_option linter.all false
set_option maxRecDepth 100000
set_option maxHeartbeats 3200000
open Go.Lib (hid)
namespace Go.Proofs.YthomjcjnalfipaaGreatDoor
open Go.RowKit
structure Cr (w:World) (B:Nat) (A:Option Addr) (n c:Nat) (L:List Int) (j:Nat) (W:World):Prop where
 cur:CurAt W B A n c L j
 mv:Mv B j w W
section
variable {w W W' : World} {B : Nat} {A : Option Addr} {n c j i k : Nat} {L : List Int}
theorem Cr.refl (h:CurAt w B A n c L k):Cr w B A n c L k w:=⟨h,Mv.refl h⟩
theorem Cr.ext (h:Cr w B A n c L j W) (e:Ext W W'):Cr w B A n c L j W':=⟨h.cur.ext e,h.mv.ext e⟩
theorem Cr.go (h:Cr w B A n c L j W) (h0:CurAt w B A n c L k) (m:Mv B i W W') (hi:i<=n):Cr w B A n c L i W':=⟨h.cur.mv m hi,h.mv.trans h0 m⟩
theorem Cr.step (h:Cr w B A n c L j W) (h0:CurAt w B A n c L k) {x:Int} (hx:x=i) (hi:i<=n):Cr w B A n c L i (W.setCell ⟨B,1,none⟩ (.int .i64 x)):=⟨h.cur.setX hx hi,h.mv.setX h0 hx⟩
end
theorem letter_any (r:Int) (w:World):Calls Tryz.prog 149 #[.int .i32 r] w fun e w'=>e=.returned (.bool (letterB r))/\w'=w:=by
 have HB:=hid (show letterB r=((decide (97<=r)&&decide (r<=122))||r==95) from rfl)
 have key:(decide (97<=r)=true/\decide (r<=122)=true)\/(decide (97<=r)=true/\decide (r<=122)=false/\(r==95)=false)\/(decide (97<=r)=false/\(r==95)=true)\/(decide (97<=r)=false/\(r==95)=false):=by
  simp only[decide_eq_true_eq,decide_eq_false_iff_not,beq_iff_eq,beq_eq_false_iff_ne];omega
 rcases key with ⟨g1,g2⟩ | ⟨g1,g2,g3⟩ | ⟨g1,g3⟩ | ⟨g1,g3⟩
 ·rw[HB.out,g1,g2];go_enter Tryz.func149,Tryz.ntmps149;go_wp2;go_ret;exact⟨by simp,rfl⟩
 ·rw[HB.out,g1,g2,g3];go_enter Tryz.func149,Tryz.ntmps149;go_wp2;go_ret;exact⟨by simp,rfl⟩
 all_goals
  rw[HB.out,g1,g3];go_enter Tryz.func149,Tryz.ntmps149;go_wp2;go_ret;exact⟨by simp,rfl⟩
theorem space_any (B:Nat) (A:Option Addr) (n c:Nat) (L:List Int) (k:Nat) (w:World) (h:CurAt w B A n c L k) :
  Calls Tryz.prog 45 #[.pointer (some ⟨B,0,none⟩)] w fun e w'=>e=.returned (.tuple #[])/\Mv B (spaceF L k) w w':=by
 have H:=hid h;have HL:=hid h.row.len;obtain⟨T,hT⟩:∃ T,spaceF L k=T:=⟨_,rfl⟩
 rw[hT];have HT0:=hid (show spaceN L (L.length+1) k=T from hT);have hnb:=h.nb;have hle:=h.le;have S0:=hid (Cr.refl h);have HF0:Hid (n<L.length+1+k):=hid (by have:=HL.out;omega);clear h hT;go_enter Tryz.func45,Tryz.ntmps45;go_wp2;go_loopw [] (fun wr=>∃ (f j:Nat),Hid (n<f+j)/\j<=n/\Hid (spaceN L f j=T)/\Hid (Cr w B A n c L j wr)) (fun wr=>n-atOf B wr);case atStart=>exact⟨_,k,HF0,hle,HT0,S0⟩
 case round=>
  clear HT0 S0 HF0;obtain⟨f',j,HF,hj,HT,S0⟩:=hrel;obtain⟨f,rfl⟩:∃ f,f'=f+1:=⟨f'-1,by have:=HF.out;omega⟩
  have hT:=HT.out;unfold spaceN at hT;have hs:skipF L j<=n:=by have:=skipF_le (L:=L) (k:=j) (by have:=HL.out;omega);have:=HL.out;omega
  have hsg:j<=skipF L j:=skipF_ge;have CS:=hid (fun W (hW:CurAt W B A n c L j)=>Skip_any B A n c L j W hW);obtain⟨j1,hj1⟩:∃ j1,j1=skipF L j:=⟨_,rfl⟩
  rw[<- hj1] at hT hs hsg CS;have CP:=hid (fun W (hW:CurAt W B A n c L (j1))=>Peek_any B A n c L (j1) W hW);have HA:=hid S0.out.cur.at_;have k1:=S0.out.cur.c1;have kz:=S0.out.cur.fz;have kl:=S0.out.cur.lt;clear HT hj1;by_cases h35:lookF L j1=35
  ·rw[if_pos h35] at hT;rw[h35] at CP;have hj2:j1<n:=by have:=look_lt' h35 (by omega);have:=HL.out;omega
   obtain⟨T2,hT2⟩:∃ T2,scanF lineB L j1=T2:=⟨_,rfl⟩
   have HG:Hid (j1+1<=T2):=hid (by rw[<- hT2,<- scanF_go line_end (by rw[h35];rfl)];exact scanF_ge);have hT2n:T2<=n:=by rw[<- hT2,<- HL.out];exact scanF_le (by have:=HL.out;omega)
   rw[hT2] at hT;have HT:=hid hT;have HT2:=hid hT2;clear hT hT2 h35
   go_wp2_with (first
    | (go_at_call 74;((with_reducible refine (CS.out _ S0.out.cur).mono ?_);rintro e w1 ⟨rfl,m1⟩;have S1:=hid (S0.out.go H.out m1 hs);clear k1 kz kl;have k1:=S1.out.cur.c1;have kz:=S1.out.cur.fz;have kl:=S1.out.cur.lt;clear m1))
    | (go_at_call 46;((with_reducible refine (CP.out _ S1.out.cur).mono ?_);rintro e w2 ⟨rfl,x2⟩;have S2:=hid (S1.out.ext x2);clear k1 kz kl;have k1:=S2.out.cur.c1;have kz:=S2.out.cur.fz;have kl:=S2.out.cur.lt;clear x2)))
   clear k1 kz kl;go_loopw [] (fun wr=>∃ i:Nat,j1<=i/\i<=n/\Hid (scanF lineB L i=T2)/\Hid (Cr w B A n c L i wr)) (fun wr=>n-atOf B wr);case atStart=>exact⟨j1,by omega,hs,HT2,S2⟩
   case round=>
    clear HT2 S0 S1 S2 CP CS;obtain⟨i,hi1,hi,HT2,S0⟩:=hrel;have HA2:=hid S0.out.cur.at_;have k1:=S0.out.cur.c1;have kz:=S0.out.cur.fz;have kl:=S0.out.cur.lt;have CP:=hid (fun W (hW:CurAt W B A n c L (i))=>Peek_any B A n c L (i) W hW);cases hb:lineB (lookF L i)
    ·have hie:i=T2:=(scanF_stop hb).symm.trans HT2.out;subst hie
     have key:decide (0<=lookF L i)=false\/(decide (0<=lookF L i)=true/\lookF L i=10):=by
      unfold lineB at hb;cases h0:decide (0<=lookF L i)
      ·exact .inl rfl
      ·rw[h0] at hb;exact .inr ⟨rfl,by simpa using hb⟩
     clear hb
     have hrel2:∀ W,Cr w B A n c L i W->(∃ (f j:Nat),Hid (n<f+j)/\j<=n/\Hid (spaceN L f j=T)/\Hid (Cr w B A n c L j W))/\n-atOf B W<n-j:=fun W hW=>by
      refine⟨⟨f,i,hid (by have:=HF.out;have:=HG.out;omega),hi,HT,hid hW⟩,?_⟩;have e2:=hW.cur.at_;have:=HG.out;rw[e2];omega
     have HR:=hid hrel2;clear hrel2;rcases key with g0 | ⟨g0,g1⟩
     ·generalize lookF L i=r at *
      go_wp2_with (first
       | (go_at_call 46;((with_reducible refine (CP.out _ S0.out.cur).mono ?_);rintro e w1 ⟨rfl,x1⟩;have S1:=hid (S0.out.ext x1);clear k1 kz kl;have k1:=S1.out.cur.c1;have kz:=S1.out.cur.fz;have kl:=S1.out.cur.lt;clear x1)))
      rw[HA.out];exact HR.out _ S1.out
     ·rw[g1] at CP;clear g0 g1
      go_wp2_with (first
       | (go_at_call 46;((with_reducible refine (CP.out _ S0.out.cur).mono ?_);rintro e w1 ⟨rfl,x1⟩;have S1:=hid (S0.out.ext x1);clear k1 kz kl;have k1:=S1.out.cur.c1;have kz:=S1.out.cur.fz;have kl:=S1.out.cur.lt;clear x1))
       | (go_at_call 46;((with_reducible refine (CP.out _ S1.out.cur).mono ?_);rintro e w2 ⟨rfl,x2⟩;have S2:=hid (S1.out.ext x2);clear k1 kz kl;have k1:=S2.out.cur.c1;have kz:=S2.out.cur.fz;have kl:=S2.out.cur.lt;clear x2)))
      rw[HA.out];exact HR.out _ S2.out
    ·have hin:i<n:=by have:=scanF_lt line_end hb;have:=HL.out;omega
     have HE:=hid ((scanF_go line_end hb).trans HT2.out);have wi:IntKind.i64.wrap ((i:Int)+1)=(i:Int)+1:=IntWalk.i64_in _ (by omega);have h0:0<=lookF L i:=by unfold lineB at hb;simp at hb;exact hb.1
     have g0:decide (0<=lookF L i)=true:=decide_eq_true h0;have g1:(lookF L i != 10)=true:=by unfold lineB at hb;simp at hb;simpa using hb.2
     clear hb HT2;generalize lookF L i=r at *
     go_wp2_with (first
      | (go_at_call 46;((with_reducible refine (CP.out _ S0.out.cur).mono ?_);rintro e w1 ⟨rfl,x1⟩;have S1:=hid (S0.out.ext x1);clear k1 kz kl;have k1:=S1.out.cur.c1;have kz:=S1.out.cur.fz;have kl:=S1.out.cur.lt;clear x1))
      | (go_at_call 46;((with_reducible refine (CP.out _ S1.out.cur).mono ?_);rintro e w2 ⟨rfl,x2⟩;have S2:=hid (S1.out.ext x2);clear k1 kz kl;have k1:=S2.out.cur.c1;have kz:=S2.out.cur.fz;have kl:=S2.out.cur.lt;clear x2)))
     have S3:=hid (S2.out.step H.out (x:=(i:Int)+1) (i:=i+1) (by omega) (by omega));have HA3:=hid S3.out.cur.at_;go_roundw;case rel=>exact⟨i+1,by omega,by omega,HE,S3⟩
     case measure=>have e1:=HA2.out;have e2:=HA3.out;rw[e1,e2];omega
  ·rw[if_neg h35] at hT;subst hT;have n35:(lookF L j1 != 35)=true:=by simpa using h35
   generalize lookF L j1=r at *;clear h35
   go_wp2_with (first
    | (go_at_call 74;((with_reducible refine (CS.out _ S0.out.cur).mono ?_);rintro e w1 ⟨rfl,m1⟩;have S1:=hid (S0.out.go H.out m1 hs);clear k1 kz kl;have k1:=S1.out.cur.c1;have kz:=S1.out.cur.fz;have kl:=S1.out.cur.lt;clear m1))
    | (go_at_call 46;((with_reducible refine (CP.out _ S1.out.cur).mono ?_);rintro e w2 ⟨rfl,x2⟩;have S2:=hid (S1.out.ext x2);clear k1 kz kl;have k1:=S2.out.cur.c1;have kz:=S2.out.cur.fz;have kl:=S2.out.cur.lt;clear x2)))
   refine bodyPost_ret (v:=.tuple #[]) (by simp[results,Tryz.results45,go_sem]) rfl ?_;exact⟨rfl,S2.out.mv⟩
def wordc (r:Int):Bool:=letterB r||digitB r
def WordI (L:List Int) (k T j:Nat):Prop:=(j=k->wordF L k=T)/\(k<j->scanF wordc L j=T)
theorem wordF_stop {L:List Int} {k:Nat} (h:letterB (lookF L k)=false):wordF L k=k:=by unfold wordF;rw[if_neg (by simp[h])]
theorem wordF_go {L:List Int} {k:Nat} (h:letterB (lookF L k)=true):wordF L k=scanF wordc L (k+1):=by unfold wordF;rw[if_pos h];rfl
theorem not_letter {r:Int} (h:letterB r=false):(r==95)=false/\(decide (97<=r)=false\/(decide (97<=r)=true/\decide (r<=122)=false)):=by
 unfold letterB at h;simp only[Bool.or_eq_false_iff,Bool.and_eq_false_iff,decide_eq_false_iff_not,beq_eq_false_iff_ne] at h;refine⟨by simpa using h.2,?_⟩;simp only[decide_eq_true_eq,decide_eq_false_iff_not];omega
theorem word_any (B:Nat) (A:Option Addr) (n c:Nat) (L:List Int) (k:Nat) (w:World) (h:CurAt w B A n c L k) :
  Calls Tryz.prog 77 #[.pointer (some ⟨B,0,none⟩)] w fun e w'=>e=.returned (.string (nameB L k (wordF L k)))/\Mv B (wordF L k) w w':=by
 have H:=hid h;have HL:=hid h.row.len;have hnb:=h.nb;have hle:=h.le;obtain⟨T,hT⟩:∃ T,wordF L k=T:=⟨_,rfl⟩
 rw[hT];have HT0:Hid (WordI L k T k):=hid ⟨fun _=>hT,fun h=>absurd h (by omega)⟩;have S0:=hid (Cr.refl h);have CP:=hid (fun W (hW:CurAt W B A n c L (k))=>Peek_any B A n c L (k) W hW);have k1:=S0.out.cur.c1;have kz:=S0.out.cur.fz;have kl:=S0.out.cur.lt;clear h hT;go_enter Tryz.func77,Tryz.ntmps77
 go_wp2_with (first
  | (go_at_call 46;((with_reducible refine (CP.out _ S0.out.cur).mono ?_);rintro e w1 ⟨rfl,x1⟩;have S1:=hid (S0.out.ext x1);clear k1 kz kl;have k1:=S1.out.cur.c1;have kz:=S1.out.cur.fz;have kl:=S1.out.cur.lt;clear x1)))
 clear k1 kz kl;go_loopw [4] (fun v wr=>∃ j:Nat,v=.int .i32 (lookF L j)/\k<=j/\j<=n/\Hid (WordI L k T j)/\Hid (Cr w B A n c L j wr)) (fun _ wr=>n-atOf B wr);case atStart=>exact⟨k,rfl,by omega,hle,HT0,S1⟩
 case round=>
  clear HT0 S0 S1 CP;obtain⟨j,rfl,hkj,hj,HT,S0⟩:=hrel;have HA:=hid S0.out.cur.at_;have k1:=S0.out.cur.c1;have kz:=S0.out.cur.fz;have kl:=S0.out.cur.lt;have wj:IntKind.i64.wrap ((j:Int)+1)=(j:Int)+1:=IntWalk.i64_in _ (by omega);have CP1:=hid (fun W (hW:CurAt W B A n c L (j+1))=>Peek_any B A n c L (j+1) W hW);by_cases hgo:letterB (lookF L j)=true\/(k<j/\digitB (lookF L j)=true)
  ·have hjn:j<n:=by
    have hp:wordc (lookF L j)=true:=by unfold wordc;rcases hgo with hg | hg <;> simp[hg]
    have:=scanF_lt (p:=wordc) wordc_end hp;have:=HL.out;omega
   have HT2:Hid (WordI L k T (j+1)):=hid ⟨fun e=>by omega,fun _=>by
    by_cases e:j=k
    ·subst e;rcases hgo with hg | hg
     ·rw[<- wordF_go hg];exact HT.out.1 rfl
     ·omega
    ·rw[scanF_go wordc_end (by unfold wordc;rcases hgo with hg | hg <;> simp[hg])]
     exact HT.out.2 (by omega)⟩
   have key:(decide (97<=lookF L j)=true/\decide (lookF L j<=122)=true)\/(decide (97<=lookF L j)=false/\(lookF L j==95)=true) \/
     (decide (97<=lookF L j)=false/\(lookF L j==95)=false/\k<j/\decide (48<=lookF L j)=true/\decide (lookF L j<=57)=true):=by
    unfold letterB digitB at hgo;simp only[Bool.or_eq_true,Bool.and_eq_true,decide_eq_true_eq,decide_eq_false_iff_not,beq_iff_eq,beq_eq_false_iff_ne] at hgo ⊢;omega
   clear hgo HT;generalize lookF L j=r at *;rcases key with ⟨g1,g2⟩ | ⟨g1,g3⟩ | ⟨g1,g3,g4,g5,g6⟩
   all_goals
    have S1:=hid (S0.out.step H.out (x:=(j:Int)+1) (i:=j+1) (by omega) (by omega));have q1:=S1.out.cur.c1
    go_wp2_with (first
     | (go_at_call 46;((with_reducible refine (CP1.out _ S1.out.cur).mono ?_);rintro e w2 ⟨rfl,x2⟩;have S2:=hid (S1.out.ext x2);clear k1 kz kl q1;have k1:=S2.out.cur.c1;have kz:=S2.out.cur.fz;have kl:=S2.out.cur.lt;clear x2)))
    have HA2:=hid S2.out.cur.at_;go_roundw;case rel=>exact⟨j+1,rfl,by omega,by omega,HT2,S2⟩
    case measure=>have e1:=HA.out;have e2:=HA2.out;rw[e1,e2];omega
  ·have hl:letterB (lookF L j)=false:=by
    cases hb:letterB (lookF L j)
    ·rfl
    ·exact absurd (.inl hb) hgo
   have hje:j=T:=by
    by_cases e:j=k
    ·subst e;rw[<- HT.out.1 rfl,wordF_stop hl]
    ·rw[<- HT.out.2 (by omega),scanF_stop];unfold wordc;rw[hl,Bool.false_or];cases hb:digitB (lookF L j)
     ·rfl
     ·exact absurd (.inr ⟨by omega,hb⟩) hgo
   subst hje;have hsl:=fun W=>run_cut_lh T_rune A n c (k:Int) (j:Int) k j rfl rfl hkj (by have:=H.out.row.cap;omega) W;have hcv:=S0.out.cur.str hkj hj;have hcvD:=fun q=>S0.out.cur.strD hkj hj q;have c0:=S0.out.cur.c0
   have key:(lookF L j==95)=false/\(decide (97<=lookF L j)=false\/(decide (97<=lookF L j)=true/\decide (lookF L j<=122)=false))/\(¬ k<j\/(k<j/\(decide (48<=lookF L j)=false\/(decide (48<=lookF L j)=true/\decide (lookF L j<=57)=false)))):=by
    refine⟨(not_letter hl).1,(not_letter hl).2,?_⟩;by_cases e:k<j
    ·refine .inr ⟨e,?_⟩
     have hd:digitB (lookF L j)=false:=by
      cases hb:digitB (lookF L j)
      ·rfl
      ·exact absurd (.inr ⟨e,hb⟩) hgo
     unfold digitB at hd;simp only[Bool.and_eq_false_iff,decide_eq_false_iff_not] at hd;simp only[decide_eq_true_eq,decide_eq_false_iff_not];omega
    ·exact .inl e
   clear hgo hl HT CP1;generalize lookF L j=r at *;obtain⟨g3,(g1 | ⟨g1,g2⟩),(g4 | ⟨g4,(g5 | ⟨g5,g6⟩)⟩)⟩:=key
   all_goals
    go_wp2;go_quiet (fail);go_wp2;go_ret;exact⟨rfl,S0.out.mv.ext ((Ext.refl _).drewN _)⟩
def nameAt (l:List UInt8) (i:Nat):Bool:=if i=0 then namedL l else (l.drop i).all fun x=>nameC x||nameD x
theorem nameAt_go {l:List UInt8} {i:Nat} {c:UInt8} (h:l[i]? =some c):nameAt l i=((nameC c||(decide (0<i)&&nameD c))&&nameAt l (i+1)):=by
 have hd:l.drop i=c::l.drop (i+1):=drop_cons h;unfold nameAt;rw[if_neg (show ¬ i+1=0 by omega)];by_cases h0:i=0
 ·subst h0;rw[List.drop_zero] at hd;rw[if_pos rfl,hd];simp[namedL]
 ·rw[if_neg h0,hd,decide_eq_true (by omega)];simp
theorem nameAt_end {l:List UInt8} {i:Nat} (h:l.length<=i) (h0:0<i):nameAt l i=true:=by
 unfold nameAt;rw[if_neg (by omega),List.drop_of_length_le h];rfl
theorem Named_any (s:ByteArray) (w:World):Calls Tryz.prog 117 #[.string s] w fun e w'=>e=.returned (.bool (namedB s))/\w'=w:=by
 have HB:=hid (show namedB s=(namedL s.data.toList&&decide (s.size<=20)) from rfl);have hl:s.data.toList.length=s.size:=by rw[Lib.size_eq]
 by_cases h1:s.size<1
 ·have g1:(s.size:Int)<1:=by omega
  have h0:s.data.toList=[]:=List.eq_nil_of_length_eq_zero (by omega);have HV:Hid (namedB s=false):=hid (by rw[HB.out,h0];rfl);rw[HV.out];clear HB hl h1 h0;go_enter Tryz.func117,Tryz.ntmps117;go_wp2;go_ret;exact⟨rfl,rfl⟩
 ·have g1:¬ (s.size:Int)<1:=by omega
  by_cases h2:20<s.size
  ·have g2:(20:Int)<(s.size:Int):=by omega
   have HV:Hid (namedB s=false):=hid (by rw[HB.out,decide_eq_false (by omega),Bool.and_false]);rw[HV.out];clear HB hl h1 h2;go_enter Tryz.func117,Tryz.ntmps117;go_wp2;go_ret;exact⟨rfl,rfl⟩
  ·have g2:¬ (20:Int)<(s.size:Int):=by omega
   obtain⟨V,hV⟩:∃ V,V=namedB s:=⟨_,rfl⟩
   have HV:Hid (nameAt s.data.toList 0=V):=hid (by rw[hV,HB.out,decide_eq_true (by omega),Bool.and_true];rfl);rw[<- hV];have HN:=hid hl;clear HB hV hl;go_enter Tryz.func117,Tryz.ntmps117;go_wp2;go_loopw [15] (fun v wr=>∃ i:Nat,v=.int .i64 i/\i<=s.size/\Hid (nameAt s.data.toList i=V)/\wr=w) (fun v _=>s.size-(intOf v).toNat);case atStart=>exact⟨0,rfl,by omega,HV,rfl⟩
   case round=>
    clear HV;obtain⟨i,rfl,hi,HV,rfl⟩:=hrel;by_cases hlt:i<s.size
    ·have hg:s.data.toList[i]? =some (s[i]'hlt):=by
      rw[List.getElem?_eq_getElem (by rw[HN.out];exact hlt)];rfl
     have HG:=hid (nameAt_go hg);have gi:(i:Int)<(s.size:Int):=by omega
     have wi:IntKind.i64.wrap ((i:Int)+1)=(i:Int)+1:=IntWalk.i64_in _ (by omega);obtain⟨c,hc⟩:∃ c,s[i]'hlt=c:=⟨_,rfl⟩
     rw[hc] at HG;have c256:c.toNat<256:=c.toNat_lt;clear hg;by_cases hgo:(nameC c||(decide (0<i)&&nameD c))=true
     ·have HV2:Hid (nameAt s.data.toList (i+1)=V):=hid (by rw[<- HV.out,HG.out,hgo,Bool.true_and])
      have key:(decide ((c.toNat:Int)<97)=false/\decide ((122:Int)<(c.toNat:Int))=false)\/(((c.toNat:Int) != 95)=false/\decide ((c.toNat:Int)<97)=true) \/
        (((c.toNat:Int) != 95)=true/\decide ((c.toNat:Int)<97)=true/\((i:Int)==0)=false/\decide ((c.toNat:Int)<48)=false/\decide ((57:Int)<(c.toNat:Int))=false):=by
       unfold nameC nameD at hgo;simp only[Bool.or_eq_true,Bool.and_eq_true,decide_eq_true_eq,decide_eq_false_iff_not,beq_iff_eq,beq_eq_false_iff_ne,bne_eq_false_iff_eq,bne_iff_ne] at hgo ⊢;omega
      clear hgo HG HV;rcases key with ⟨k1,k2⟩ | ⟨k1,k2⟩ | ⟨k1,k2,k3,k4,k5⟩
      all_goals
       go_wp2;go_roundw;case rel=>exact⟨i+1,by go_num,by omega,HV2,by first | rfl | trivial⟩
       case measure=>simp[intOf];omega
     ·have hgo:(nameC c||(decide (0<i)&&nameD c))=false:=by simpa using hgo
      have hV:V=false:=by rw[<- HV.out,HG.out,hgo,Bool.false_and]
      subst hV
      have key:((c.toNat:Int) != 95)=true/\((decide ((c.toNat:Int)<97)=true)\/(decide ((c.toNat:Int)<97)=false/\decide ((122:Int)<(c.toNat:Int))=true)) /\
        (((i:Int)==0)=true\/(((i:Int)==0)=false/\(decide ((c.toNat:Int)<48)=true\/(decide ((c.toNat:Int)<48)=false/\decide ((57:Int)<(c.toNat:Int))=true)))):=by
       unfold nameC nameD at hgo;simp only[Bool.or_eq_false_iff,Bool.and_eq_false_iff,Bool.or_eq_true,Bool.and_eq_true,decide_eq_true_eq,decide_eq_false_iff_not,beq_iff_eq,beq_eq_false_iff_ne,bne_eq_false_iff_eq,bne_iff_ne] at hgo ⊢;omega
      clear hgo HG HV;obtain⟨k1,(k2 | ⟨k2,k3⟩),(k4 | ⟨k4,(k5 | ⟨k5,k6⟩)⟩)⟩:=key
      all_goals
       go_wp2;go_ret;exact⟨rfl,rfl⟩
    ·have hV:V=true:=by rw[<- HV.out];exact nameAt_end (by rw[HN.out];omega) (by omega)
     subst hV;have gi:¬ (i:Int)<(s.size:Int):=by omega
     go_wp2;go_ret;exact⟨rfl,rfl⟩
theorem name_any (B:Nat) (A:Option Addr) (n c:Nat) (L:List Int) (k:Nat) (w:World) (h:CurAt w B A n c L k) :
  Calls Tryz.prog 79 #[.pointer (some ⟨B,0,none⟩)] w fun e w'=>PRet w B (nameF L k) (fun s _ v=>v=.string s/\s.size<=20) e w':=by
 have H:=hid h;have HL:=hid h.row.len;have hw:wordF L k<=n:=by have:=wordF_le (L:=L) (k:=k) (by have:=HL.out;have:=h.le;omega);have:=HL.out;omega
 have S0:=hid (Cr.refl h);have CW:=hid (fun W (hW:CurAt W B A n c L k)=>word_any B A n c L k W hW);obtain⟨V,hV⟩:∃ V,V=nameF L k:=⟨_,rfl⟩
 rw[<- hV];unfold nameF at hV;generalize wordF L k=j at *;generalize nameB L k j=s at *;have CN:=hid (fun W=>Named_any s W);have k1:=S0.out.cur.c1;have kz:=S0.out.cur.fz;have kl:=S0.out.cur.lt;clear h;cases hb:namedB s
 ·rw[if_neg (by simp[hb])] at hV;subst hV;rw[hb] at CN;have CF:=hid (fun W=>Fail_any 7 k W);clear hb;go_enter Tryz.func79,Tryz.ntmps79
  go_wp2_with (first
   | (go_at_call 77;((with_reducible refine (CW.out _ S0.out.cur).mono ?_);rintro e w1 ⟨rfl,m1⟩;have S1:=hid (S0.out.go H.out m1 hw);clear k1 kz kl;have k1:=S1.out.cur.c1;have kz:=S1.out.cur.fz;have kl:=S1.out.cur.lt;clear m1))
   | (go_at_call 117;((with_reducible refine (CN.out _).mono ?_);rintro e w2 ⟨rfl,rfl⟩))
   | (go_at_call 44;((with_reducible refine (CF.out _).mono ?_);rintro e w3 ⟨rfl,rfl⟩)))
  exact⟨rfl,rfl,_,S1.out.mv⟩
 ·rw[if_pos hb] at hV;subst hV;have h20:s.size<=20:=by unfold namedB at hb;simp at hb;exact hb.2
  rw[hb] at CN;clear hb;go_enter Tryz.func79,Tryz.ntmps79
  go_wp2_with (first
   | (go_at_call 77;((with_reducible refine (CW.out _ S0.out.cur).mono ?_);rintro e w1 ⟨rfl,m1⟩;have S1:=hid (S0.out.go H.out m1 hw);clear k1 kz kl;have k1:=S1.out.cur.c1;have kz:=S1.out.cur.fz;have kl:=S1.out.cur.lt;clear m1))
   | (go_at_call 117;((with_reducible refine (CN.out _).mono ?_);rintro e w2 ⟨rfl,rfl⟩)))
  go_ret;exact⟨_,rfl,⟨rfl,h20⟩,S1.out.mv⟩
theorem T_item:ElemT Tryz.prog 107 193 4 56:=elemT Tryz.underlying107 (z:=.agg #[.int .i64 0,.int .i32 0,.slice none 0 0,.string ⟨#[]⟩]) (by kernel_rfl) rfl (by omega)
theorem ik0:i64 0:=by unfold i64;omega
theorem ik1:i64 1:=by unfold i64;omega
theorem ik2:i64 2:=by unfold i64;omega
theorem ik3:i64 3:=by unfold i64;omega
theorem ik4:i64 4:=by unfold i64;omega
theorem ir0:i32 0:=by unfold i32;omega
abbrev ItR (base:Nat) (w:World) (v:Value) (l:List It):Prop:=RowR rIt 193 4 base w v l
theorem quotedF_len {L:List Int}:∀ (f:Nat) (out:List It) (k:Nat) (r:List It) (k1:Nat),quotedF L f out k=.ok r k1->r.length+k<out.length+k1
 | 0,_,_,_,_,h=>by cases h
 | f+1,out,k,r,k1,h=>by
  unfold quotedF at h;split at h
  ·cases h;omega
  ·split at h
   ·cases h
   ·have:=quotedF_len f _ _ _ _ h;simp at this;omega
theorem quoted_any (B:Nat) (A:Option Addr) (n c:Nat) (L:List Int) (k:Nat) (w:World) (h:CurAt w B A n c L k) (hkn:k<n) (hn:n<=40000) :
  Calls Tryz.prog 150 #[.pointer (some ⟨B,0,none⟩)] w fun e w'=>PRet w B (quotedF L (L.length+1) [] (k+1)) (fun q W v=>ItR w.heap.size W v q) e w':=by
 have H:=hid h;have HL:=hid h.row.len;have HI:=hid h.i32;have hnb:=h.nb;have hle:=h.le;obtain⟨T,hT⟩:∃ T,quotedF L (L.length+1) [] (k+1)=T:=⟨_,rfl⟩
 rw[hT];have HT0:=hid hT;have S0:=hid (Cr.refl h);have HF0:Hid (n<L.length+1+(k+1)):=hid (by have:=HL.out;omega);have wk:IntKind.i64.wrap ((k:Int)+1)=(k:Int)+1:=IntWalk.i64_in _ (by omega);have S1:=hid (S0.out.step H.out (x:=(k:Int)+1) (i:=k+1) (by omega) (by omega));have O1:Hid (ItR w.heap.size (w.setCell ⟨B,1,none⟩ (.int .i64 ((k:Int)+1))) (.slice none 0 0) []):=hid (RowR.nil _ _ _ _ _);have k1:=S0.out.cur.c1;have kz:=S0.out.cur.fz;have kl:=S0.out.cur.lt;clear h hT;go_enter Tryz.func150,Tryz.ntmps150;go_wp2;go_loopw [3] (fun v wr=>∃ (f j:Nat) (q:List It),Hid (n<f+j)/\j<=n/\q.length<=j/\Hid (quotedF L f q j=T)/\Hid (Cr w B A n c L j wr)/\Hid (ItR w.heap.size wr v q)) (fun _ wr=>n-atOf B wr);case atStart=>exact⟨_,k+1,[],HF0,by omega,by simp,HT0,S1,O1⟩
 case round=>
  clear HT0 S0 HF0 S1 O1 k1 kz kl;obtain⟨f',j,q,HF,hj,hq,HT,S0,O0⟩:=hrel;obtain⟨f,rfl⟩:∃ f,f'=f+1:=⟨f'-1,by have:=HF.out;omega⟩
  have hT:=HT.out;unfold quotedF at hT;have HA:=hid S0.out.cur.at_;have k1:=S0.out.cur.c1;have kz:=S0.out.cur.fz;have kl:=S0.out.cur.lt;have wj:IntKind.i64.wrap ((j:Int)+1)=(j:Int)+1:=IntWalk.i64_in _ (by omega);have CP:=hid (fun W (hW:CurAt W B A n c L (j))=>Peek_any B A n c L (j) W hW);have hB:=H.out.lt.1;clear HT;by_cases h39:lookF L j=39
  ·rw[if_pos h39] at hT;subst hT;rw[h39] at CP;have hj1:j<n:=by have:=look_lt' h39 (by omega);have:=HL.out;omega
   clear h39
   go_wp2_with (first
    | (go_at_call 46;((with_reducible refine (CP.out _ S0.out.cur).mono ?_);rintro e w1 ⟨rfl,x1⟩;have S1:=hid (S0.out.ext x1);clear k1 kz kl;have k1:=S1.out.cur.c1;have kz:=S1.out.cur.fz;have kl:=S1.out.cur.lt;have S2:=hid (S1.out.step H.out (x:=(j:Int)+1) (i:=j+1) (by omega) (by omega));have O2:=hid ((O0.out.ext fam_it x1).agree fam_it ((agree_set B 1 w1 (.int .i64 ((j:Int)+1))).mono fun b hb=>by omega) (by rw[size_set];exact Nat.le_refl _));clear x1)))
   go_ret;exact⟨_,rfl,O2.out,S2.out.mv⟩
  ·rw[if_neg h39] at hT;have n39:(lookF L j != 39)=true:=by simpa using h39
   clear h39;by_cases h0:lookF L j<0
   ·rw[if_pos h0] at hT;subst hT;have CF:=hid (fun W=>Fail_any 2 j W);generalize lookF L j=r at *
    go_wp2_with (first
     | (go_at_call 46;((with_reducible refine (CP.out _ S0.out.cur).mono ?_);rintro e w1 ⟨rfl,x1⟩;have S1:=hid (S0.out.ext x1);clear k1 kz kl;have k1:=S1.out.cur.c1;have kz:=S1.out.cur.fz;have kl:=S1.out.cur.lt;clear x1))
     | (go_at_call 46;((with_reducible refine (CP.out _ S1.out.cur).mono ?_);rintro e w2 ⟨rfl,x2⟩;have S2:=hid (S1.out.ext x2);clear k1 kz kl;have k1:=S2.out.cur.c1;have kz:=S2.out.cur.fz;have kl:=S2.out.cur.lt;clear x2))
     | (go_at_call 44;((with_reducible refine (CF.out _).mono ?_);rintro e w3 ⟨rfl,rfl⟩)))
    exact⟨rfl,rfl,_,S2.out.mv⟩
   ·rw[if_neg h0] at hT;have hjn:j<n:=by have:=look_lt0 (L:=L) (k:=j) (by omega);have:=HL.out;omega
    have HT:=hid hT;have HR:=lookF_i32 HI.out j;clear hT;generalize lookF L j=r at *
    go_wp2_with (first
     | (go_at_call 46;((with_reducible refine (CP.out _ S0.out.cur).mono ?_);rintro e w1 ⟨rfl,x1⟩;have S1:=hid (S0.out.ext x1);have y1:=x1;clear k1 kz kl;have k1:=S1.out.cur.c1;have kz:=S1.out.cur.fz;have kl:=S1.out.cur.lt;clear x1))
     | (go_at_call 46;((with_reducible refine (CP.out _ S1.out.cur).mono ?_);rintro e w2 ⟨rfl,x2⟩;have S2:=hid (S1.out.ext x2);have y2:=x2;clear k1 kz kl;have k1:=S2.out.cur.c1;have kz:=S2.out.cur.fz;have kl:=S2.out.cur.lt;clear x2))
     | (go_at_call 46;((with_reducible refine (CP.out _ S2.out.cur).mono ?_);rintro e w3 ⟨rfl,x3⟩;have S3:=hid (S2.out.ext x3);clear k1 kz kl;have k1:=S3.out.cur.c1;have kz:=S3.out.cur.fz;have kl:=S3.out.cur.lt;have S4:=hid (S3.out.ext ((Ext.refl _).alloc (.cells #[.int .i64 1,.int .i32 r,.slice none 0 0,.string ⟨#[]⟩] 193)));have O4:=hid ((((O0.out.ext fam_it y1).ext fam_it y2).ext fam_it x3).ext fam_it ((Ext.refl _).alloc (.cells #[.int .i64 1,.int .i32 r,.slice none 0 0,.string ⟨#[]⟩] 193)));clear x3))
     | (at_builtin;refine wpList_row fam_it T_item (by omega) rfl (.tmp 29) (.tmp 35) rfl rfl O4.out rfl (it_one (x:=⟨1,r,[],.empty⟩) (tk:=bot) _ ⟨ik1,HR,Nat.zero_le _,SlR.nil _ _ _ _ _ _ (by unfold maxLen;omega)⟩) (Clear.bot _ _ _) (by omega) (S4.out.mv.size) ?_;intro v5 w5 o5 g5;have S5:=hid (Cr.mk (H.out.mv (RowR.mvg S4.out.mv O4.out g5) hj) (RowR.mvg S4.out.mv O4.out g5));have O5:=hid o5;clear o5 g5;clear k1 kz kl;have k1:=S5.out.cur.c1;have kz:=S5.out.cur.fz;have kl:=S5.out.cur.lt))
    have S6:=hid (S5.out.step H.out (x:=(j:Int)+1) (i:=j+1) (by omega) (by omega));have O6:=hid (O5.out.agree fam_it ((agree_set B 1 w5 (.int .i64 ((j:Int)+1))).mono fun b hb=>by omega) (by rw[size_set];exact Nat.le_refl _));have HA2:=hid S6.out.cur.at_;go_roundw;case rel=>exact⟨f,j+1,_,hid (by have:=HF.out;omega),by omega,by simp;omega,HT,S6,O6⟩
    case measure=>have e1:=HA.out;have e2:=HA2.out;rw[e1,e2];omega
end Go.Proofs.YthomjcjnalfipaaGreatDoor
