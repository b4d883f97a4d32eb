/- A part of the proofs of the Top laws. -/
import Derived.Laws.Cover4
import Derived.Test.YthomjcjnalfipaaGreatDoorYB11
import Derived.Test.YthomjcjnalfipaaGreatDoorYB14
set_option linter.all false
set_option maxRecDepth 100000
set_option maxHeartbeats 6400000
open Go.Lib (hid)
namespace Go.Proofs.YthomjcjnalfipaaGreatDoor
open Go.RowKit
def specialS:ByteArray:=⟨#[91,93,38,45,94,92,58,36,40,41,123,125,60,62,124,59,35,39,34,61,44]⟩
def hexS:ByteArray:=⟨#[48,49,50,51,52,53,54,55,56,57,97,98,99,100,101,102,65,66,67,68,69,70]⟩
theorem small_special:Small specialS:=⟨by decide,by decide,by decide⟩
theorem small_hex:Small hexS:=⟨by decide,by decide,by decide⟩
theorem has_of {s:ByteArray} {l:List Int} (h:l=s.data.toList.map fun b=>(b.toNat:Int)) (r:Int):hasB s r=l.contains r:=by
 rw[h,List.contains_eq_any_beq,List.any_map];unfold hasB;congr 1;funext b;exact BEq.comm
theorem has_special (r:Int):hasB specialS r=special.contains r:=has_of (by decide) r
theorem has_hex (r:Int):hasB hexS r=hexB r:=has_of (by decide) r
theorem lookF_i32 {L:List Int} (h:∀ r∈L,i32 r) (k:Nat):i32 (lookF L k):=by
 unfold lookF;rw[List.getD_eq_getElem?_getD]
 cases hk:L[k]? with
 | none=>simp[i32]
 | some x=>exact h _ (List.mem_of_getElem? hk)
theorem CurAt.i32 {w:World} {B:Nat} {A:Option Addr} {n c:Nat} {L:List Int} {k:Nat} (h:CurAt w B A n c L k):∀ r∈L,i32 r:=by
 intro r hr;obtain⟨i,hi⟩:=List.getElem?_of_mem hr;obtain⟨b,off,_,_,_,h2⟩:=h.row.rune hi;exact h2
theorem CurAt.setX {w:World} {B:Nat} {A:Option Addr} {n c:Nat} {L:List Int} {k j:Nat} {x:Int} (h:CurAt w B A n c L k) (hx:x=j) (hj:j<=n):CurAt (w.setCell ⟨B,1,none⟩ (.int .i64 x)) B A n c L j:=by subst hx;exact h.set hj
theorem Mv.setX {w w':World} {B:Nat} {A:Option Addr} {n c:Nat} {L:List Int} {k j i:Nat} {x:Int} (h:CurAt w B A n c L k) (m:Mv B j w w') (hx:x=i):Mv B i w (w'.setCell ⟨B,1,none⟩ (.int .i64 x)):=by subst hx;exact m.set h i
theorem Plain_any (r:Int) (w:World) (hr:i32 r):Calls Tryz.prog 144 #[.int .i32 r] w fun e w'=>e=.returned (.bool (plainB r))/\Ext w w':=by
 have HP:=hid (show plainB r=(decide (0<=r)&&(!blankB r&& !special.contains r)) from rfl);have C1:=hid (fun W=>blank_any r W);have C2:=hid (fun W=>containsRune_any specialS r W small_special hr);rw[has_special] at C2;have HS:Hid (specialS=_):=hid (show specialS=⟨#[91,93,38,45,94,92,58,36,40,41,123,125,60,62,124,59,35,39,34,61,44]⟩ from rfl);rw[HS.out] at C2;clear HS;generalize special.contains r=q2 at *;by_cases h0:0<=r
 ·have g0:decide (0<=r)=true:=decide_eq_true h0;rw[g0] at HP;cases hb:blankB r
  ·rw[hb] at HP C1;rw[HP.out];clear HP hb;go_enter Tryz.func144,Tryz.ntmps144
   go_wp2_with (first
    | (go_at_call 109;((with_reducible refine (C1.out _).mono ?_);rintro e w2 ⟨rfl,rfl⟩))
    | (go_at_call 164;((with_reducible refine (C2.out _).mono ?_);rintro e w3 ⟨rfl,x3⟩)))
   go_ret;exact⟨by simp,x3⟩
  ·rw[hb] at HP C1;rw[HP.out];clear HP hb;go_enter Tryz.func144,Tryz.ntmps144
   go_wp2_with (first
    | (go_at_call 109;((with_reducible refine (C1.out _).mono ?_);rintro e w2 ⟨rfl,rfl⟩)))
   go_ret;exact⟨by simp,Ext.refl _⟩
 ·have g0:decide (0<=r)=false:=decide_eq_false h0;rw[g0] at HP;rw[HP.out];clear HP;go_enter Tryz.func144,Tryz.ntmps144;go_wp2;go_ret;exact⟨by simp,Ext.refl _⟩
theorem run_str {ok:Nat->Prop} {w:World} {A:Option Addr} {n c:Nat} {L:List Int} (h:SlR rRune 1 ok w A n c L) :
  (convert 31 9 (.slice A n c)).run Tryz.prog w=.ok (.string (runesBytes L)) w:=by
 rw[run_convert_runes_string w _ _ 21 A n c (by kernel_rfl) (by kernel_rfl) (by kernel_rfl)]
 cases A with
 | none=>
  have:L=[]:=by
   cases L with
   | nil=>rfl
   | cons x l=>obtain⟨b,off,vs,e,_⟩:=h.at_ 0 x rfl;cases e
  subst this;rfl
 | some a=>
  refine run_runesToString w a n c L ?_
  have:=run_loadCells_list (w:=w) (P:=Tryz.prog) a (L.map (Value.int .i32)) (fun j v hv=>by
   obtain⟨x,hx,rfl⟩:∃ x,L[j]? =some x/\Value.int .i32 x=v:=by simpa using hv
   obtain⟨b,off,e,_,hc,_⟩:=h.rune hx;injection e with e;subst e;rw[addr_add]
   simpa using hc)
  simpa [h.len] using this
theorem CurAt.str {w:World} {B:Nat} {A:Option Addr} {n c:Nat} {L:List Int} {k:Nat} (h:CurAt w B A n c L k) {lo hi:Nat} (h1:lo<=hi) (h2:hi<=n) :
  (convert 31 9 (.slice (cutA A c lo 1) (hi-lo) (c-lo))).run Tryz.prog w=.ok (.string (nameB L lo hi)) w:=run_str (h.row.mid h1 h2)
theorem CurAt.strD {w:World} {B:Nat} {A:Option Addr} {n c:Nat} {L:List Int} {k:Nat} (h:CurAt w B A n c L k) {lo hi:Nat} (h1:lo<=hi) (h2:hi<=n) (q:Nat) :
  (convert 31 9 (.slice (cutA A c lo 1) (hi-lo) (c-lo))).run Tryz.prog (w.drewN q)=.ok (.string (nameB L lo hi)) (w.drewN q):=
 (h.ext ((Ext.refl w).drewN q)).str h1 h2
theorem scan_all {p:Int->Bool} {L:List Int}:∀ (f k:Nat),k+f<=L.length->∀ i,k<=i->i<scanN p L f k->p (lookF L i)=true
 | 0,k,_,i,h1,h2=>by unfold scanN at h2;omega
 | f+1,k,h,i,h1,h2=>by
  unfold scanN at h2;split at h2
  ·rename_i hp;by_cases e:i=k
   ·rw[e];exact hp
   ·exact scan_all f (k+1) (by omega) i (by omega) h2
  ·omega
theorem scan_list {p:Int->Bool} {L:List Int} {k:Nat} (hk:k<=L.length):((L.take (scanF p L k)).drop k).all p=true:=by
 rw[List.all_eq_true];intro x hx;obtain⟨i,hi⟩:=List.getElem?_of_mem hx;rw[List.getElem?_drop,List.getElem?_take] at hi;split at hi
 ·rename_i hlt;have:=scan_all (p:=p) (L:=L) (L.length-k) k (by omega) (k+i) (by omega) hlt
  rwa [look_get hi] at this
 ·cases hi
theorem hex_any (B:Nat) (A:Option Addr) (n c:Nat) (L:List Int) (k:Nat) (w:World) (h:CurAt w B A n c L k) (hkn:k<n) :
  Calls Tryz.prog 166 #[.pointer (some ⟨B,0,none⟩)] w fun e w'=>PRet w B (hexF L k) (fun a _ v=>v=.int .i32 a) e w':=by
 have H:=hid h;have HI:=hid h.i32;have HL:=hid h.row.len;have hnb:=h.nb;have hle:=h.le;have c0:=h.c0;have c1:=h.c1;have hfz:=h.fz;have hl:=h.lt;have wk:IntKind.i64.wrap ((k:Int)+1)=(k:Int)+1:=IntWalk.i64_in _ (by omega);have H1:=hid (h.setX (x:=(k:Int)+1) (j:=k+1) (by omega) (by omega));have HM1:=hid ((Mv.refl h).setX h (x:=(k:Int)+1) (i:=k+1) (by omega));by_cases h1:lookF L (k+1)=123
 ·have hk2:k+1<n:=by have:=look_lt' h1 (by omega);have:=HL.out;omega
  obtain⟨E,hE⟩:∃ E,E=scanF hexB L (k+2):=⟨_,rfl⟩
  have hE0:k+2<=E:=by rw[hE];exact scanF_ge
  have hEn:E<=n:=by rw[hE,<- HL.out];exact scanF_le (by have:=HL.out;omega)
  have HS:Hid (((L.take E).drop (k+2)).all hexB=true):=hid (by rw[hE];exact scan_list (by have:=HL.out;omega));have HE:=hid hE.symm
  have HF:Hid (hexF L k=if E<k+3\/k+8<E then .fail 2 (k+2) else if lookF L E≠125 then .fail 2 E else if 1114111<hexN ((L.take E).drop (k+2)) then .fail 3 k else .ok (hexN ((L.take E).drop (k+2))) (E+1)):=hid (by
   unfold hexF;rw[if_neg (by simp[h1]),<- hE])
  obtain⟨V,hV⟩:∃ V,V=hexF L k:=⟨_,rfl⟩
  rw[<- hV];have HV:=hid (hV.trans HF.out);have CN:=hid (fun W (hW:CurAt W B A n c L (k+1))=>Need_any B A n c L (k+1) 123 W hW (by omega));have HN:Hid (needF L 123 (k+1)=.ok () (k+2)):=hid (by unfold needF;rw[if_pos h1]);rw[HN.out] at CN;clear hE h HF HN h1 hV;go_enter Tryz.func166,Tryz.ntmps166;go_wp2_with (go_at_call 48;((with_reducible refine (CN.out _ H1.out).mono ?_);rintro e w1 ⟨v,rfl,rfl,m1⟩;have hm1:=HM1.out.trans H.out m1;have hc1:=H.out.mv hm1 (by omega);have k1:=hc1.c1;have k0:=hc1.c0;have kz:=hc1.fz;have kl:=hc1.lt;have HC1:=hid hc1;have HMV:=hid hm1;clear m1 hm1 hc1));go_loopw [] (fun wr=>∃ j:Nat,k+2<=j/\j<=n/\Hid (scanF hexB L j=E)/\Hid (Mv B j w wr)) (fun wr=>n-atOf B wr);case atStart=>exact⟨k+2,by omega,by omega,HE,HMV⟩
  case round=>
   clear HE k1 k0 kz kl HC1 HMV c0 c1 hfz hl CN;obtain⟨j,hj0,hj,HT,HM⟩:=hrel;have hC:=H.out.mv HM.out hj;have C1:=hid (fun W (e:Ext wr W)=>Peek_any B A n c L j W (hC.ext e));have C2:=hid (fun W=>containsRune_any hexS (lookF L j) W small_hex (lookF_i32 HI.out j));rw[has_hex] at C2;have HS5:Hid (hexS=_):=hid (show hexS=⟨#[48,49,50,51,52,53,54,55,56,57,97,98,99,100,101,102,65,66,67,68,69,70]⟩ from rfl);rw[HS5.out] at C2;clear HS5;cases hb:hexB (lookF L j)
   ·have hje:j=E:=(scanF_stop hb).symm.trans HT.out;subst hje;rw[hb] at C2;have hsl:=fun W=>run_cut_lh T_rune A n c ((k:Int)+2) (j:Int) (k+2) j (by omega) rfl hE0 (by have:=H.out.row.cap;omega) W;have hc0:=hC.c0;have hc1:=hC.c1;have hz:=hC.fz;have hl:=hC.lt;have HC:=hid hC;clear hC hb HT
    have hsz:(nameB L (k+2) j).size=j-(k+2)/\(∀ b∈(nameB L (k+2) j).data.toList,hexb b=true)/\(hexA (nameB L (k+2) j).data.toList:Int)=hexN ((L.take j).drop (k+2)):=by
     have h1:=HS.out;rw[List.all_eq_true] at h1;have h2:=runesBytes_ascii ((L.take j).drop (k+2)) (fun r hr=>(hexB_hexb (h1 r hr)).2);have hlen:((L.take j).drop (k+2)).length=j-(k+2):=by have:=HL.out;simp;omega
     refine⟨?_,?_,?_⟩
     ·rw[Lib.size_eq];unfold nameB;rw[h2,List.length_map,hlen]
     ·unfold nameB;rw[h2];intro b hb;obtain⟨r,hr,rfl⟩:=List.mem_map.1 hb;exact (hexB_hexb (h1 r hr)).1
     ·unfold nameB;rw[h2,hexN_hexA _ HS.out]
    obtain⟨t,ht⟩:∃ t,t=nameB L (k+2) j:=⟨_,rfl⟩
    rw[<- ht] at hsz;have HT:=hid ht.symm;obtain⟨hs1,hs2,hs3⟩:=hsz;clear ht;have PK:∀ W,Ext wr W->Calls Tryz.prog 46 #[.pointer (some ⟨B,0,none⟩)] W fun e w'=>e=.returned (.int .i32 (lookF L j))/\Ext W w':=C1.out;by_cases hbad:j<k+3\/k+8<j
    ·have hV:=HV.out;rw[if_pos hbad] at hV;subst hV;have CF:=hid (fun W=>Fail_any 2 ((k:Int)+2) W);have ht1:((t.size:Int)<1)\/(¬ (t.size:Int)<1/\(6:Int)<t.size):=by omega
     clear hbad hs2 hs3 hs1;rcases ht1 with ht1 | ⟨ht1,ht2⟩
     all_goals
      go_wp2_with (first
       | (go_at_call 46;((with_reducible refine (C1.out _ (Ext.refl _)).mono ?_);rintro e w2 ⟨rfl,x2⟩))
       | (go_at_call 164;((with_reducible refine (C2.out _).mono ?_);rintro e w3 ⟨rfl,x3⟩;have hc3:=HC.out.ext (x2.trans x3);have g0:=hc3.c0;have g1:=hc3.c1;have gl:=hc3.lt;have hcv:=hc3.strD hE0 hj;rw[HT.out] at hcv;have HC3:=hid hc3;have X3:=hid (x2.trans x3);clear hc3 x2 x3)))
      go_quiet (fail);go_wp2_with (go_at_call 44;((with_reducible refine (CF.out _).mono ?_);rintro e w4 ⟨rfl,rfl⟩));exact⟨rfl,rfl,j,HM.out.ext (X3.out.trans ((Ext.refl _).drewN _))⟩
    ·have hV:=HV.out;rw[if_neg hbad] at hV;have ht1:¬ (t.size:Int)<1:=by omega
     have ht2:¬ (6:Int)<t.size:=by omega
     have CN:=hid (fun W (e:Ext wr W)=>Need_any B A n c L j 125 W (HC.out.ext e) (by omega));by_cases h125:lookF L j=125
     ·have hNe:needF L 125 j=.ok () (j+1):=by unfold needF;rw[if_pos h125]
      have hjn:j<n:=by have:=look_lt' h125 (by omega);have:=HL.out;omega
      rw[hNe] at CN;rw[if_neg (by simp[h125])] at hV;have CP:=hid (fun W=>ParseInt16_any t W (by omega) (by omega) hs2);rw[hs3] at CP;obtain⟨N,hN⟩:∃ N,N=hexN ((L.take j).drop (k+2)):=⟨_,rfl⟩
      have hn0:0<=N:=by rw[hN,<- hs3];omega
      have hn1:N<16777216:=by
       have h1:=hexA_lt t.size t.data.toList hs2;have h2:t.data.toList.length=t.size:=by rw[Lib.size_eq]
       rw[<- h2,List.take_length,h2] at h1;have h3:16 ^ t.size<=16 ^ 6:=Nat.pow_le_pow_right (by omega) (by omega);have h4:(16:Nat) ^ 6=16777216:=by decide
       rw[hN,<- hs3];omega
      rw[<- hN] at CP hV;clear hbad hs1 hs2 hs3 h125 hNe hN;by_cases hbig:1114111<N
      ·rw[if_pos hbig] at hV;subst hV;have CF:=hid (fun W=>Fail_any 3 (k:Int) W)
       go_wp2_with (first
        | (go_at_call 46;((with_reducible refine (C1.out _ (Ext.refl _)).mono ?_);rintro e w2 ⟨rfl,x2⟩))
        | (go_at_call 164;((with_reducible refine (C2.out _).mono ?_);rintro e w3 ⟨rfl,x3⟩;have hc3:=HC.out.ext (x2.trans x3);have g0:=hc3.c0;have g1:=hc3.c1;have gl:=hc3.lt;have hcv:=hc3.strD hE0 hj;rw[HT.out] at hcv;have HC3:=hid hc3;have X3:=hid (x2.trans x3);clear hc3 x2 x3)))
       go_quiet (fail)
       go_wp2_with (first
        | (go_at_call 48;((with_reducible refine (CN.out _ (X3.out.trans ((Ext.refl _).drewN _))).mono ?_);rintro e w5 ⟨v,rfl,rfl,m5⟩;have M5:=hid ((HM.out.ext (X3.out.trans ((Ext.refl _).drewN _))).trans H.out m5);clear m5))
        | (go_at_call 179;((with_reducible refine (CP.out _).mono ?_);rintro e w6 ⟨rfl,x6⟩;have M6:=hid (M5.out.ext x6);clear x6))
        | (go_at_call 44;((with_reducible refine (CF.out _).mono ?_);rintro e w4 ⟨rfl,rfl⟩)))
       exact⟨rfl,rfl,_,M6.out⟩
      ·rw[if_neg hbig] at hV;subst hV;have wN:IntKind.i32.wrap N=N:=IntWalk.i32_in _ (by omega)
       go_wp2_with (first
        | (go_at_call 46;((with_reducible refine (C1.out _ (Ext.refl _)).mono ?_);rintro e w2 ⟨rfl,x2⟩))
        | (go_at_call 164;((with_reducible refine (C2.out _).mono ?_);rintro e w3 ⟨rfl,x3⟩;have hc3:=HC.out.ext (x2.trans x3);have g0:=hc3.c0;have g1:=hc3.c1;have gl:=hc3.lt;have hcv:=hc3.strD hE0 hj;rw[HT.out] at hcv;have HC3:=hid hc3;have X3:=hid (x2.trans x3);clear hc3 x2 x3)))
       go_quiet (fail)
       go_wp2_with (first
        | (go_at_call 48;((with_reducible refine (CN.out _ (X3.out.trans ((Ext.refl _).drewN _))).mono ?_);rintro e w5 ⟨v,rfl,rfl,m5⟩;have M5:=hid ((HM.out.ext (X3.out.trans ((Ext.refl _).drewN _))).trans H.out m5);clear m5))
        | (go_at_call 179;((with_reducible refine (CP.out _).mono ?_);rintro e w6 ⟨rfl,x6⟩;have M6:=hid (M5.out.ext x6);clear x6)))
       go_ret;exact⟨_,rfl,rfl,M6.out⟩
     ·have hNe:needF L 125 j=.fail 2 j:=by unfold needF;rw[if_neg h125]
      rw[hNe] at CN;rw[if_pos h125] at hV;subst hV;clear hbad hs1 hs2 hs3 h125 hNe
      go_wp2_with (first
       | (go_at_call 46;((with_reducible refine (C1.out _ (Ext.refl _)).mono ?_);rintro e w2 ⟨rfl,x2⟩))
       | (go_at_call 164;((with_reducible refine (C2.out _).mono ?_);rintro e w3 ⟨rfl,x3⟩;have hc3:=HC.out.ext (x2.trans x3);have g0:=hc3.c0;have g1:=hc3.c1;have gl:=hc3.lt;have hcv:=hc3.strD hE0 hj;rw[HT.out] at hcv;have HC3:=hid hc3;have X3:=hid (x2.trans x3);clear hc3 x2 x3)))
      go_quiet (fail);go_wp2_with (go_at_call 48;((with_reducible refine (CN.out _ (X3.out.trans ((Ext.refl _).drewN _))).mono ?_);rintro e w5 ⟨rfl,q,m5⟩;have M5:=hid ((HM.out.ext (X3.out.trans ((Ext.refl _).drewN _))).trans H.out m5);clear m5));exact⟨rfl,rfl,_,M5.out⟩
   ·have hjn:j<n:=by have:=scanF_lt hex_end hb;have:=HL.out;omega
    have HE2:=hid ((scanF_go hex_end hb).trans HT.out);rw[hb] at C2;have hb2:=(hexB_hexb hb).2;have HA:=hid hC.at_;have HC:=hid hC;have wj:IntKind.i64.wrap ((j:Int)+1)=(j:Int)+1:=IntWalk.i64_in _ (by omega);generalize lookF L j=r at *;clear hb hC HT HV
    go_wp2_with (first
     | (go_at_call 164;((with_reducible refine (C2.out _).mono ?_);rintro e w3 ⟨rfl,x3⟩;have X3:=hid (X2.out.trans x3);clear x3 X2))
     | (go_at_call 46;((with_reducible refine (C1.out _ (Ext.refl _)).mono ?_);rintro e w2 ⟨rfl,x2⟩;have X2:=hid x2;clear x2))
     | (go_at_call 46;((with_reducible refine (C1.out _ X3.out).mono ?_);rintro e w4 ⟨rfl,x4⟩;have X4:=hid (X3.out.trans x4);have hc4:=HC.out.ext X4.out;have k1:=hc4.c1;have kz:=hc4.fz;have kl:=hc4.lt;have HC4:=hid hc4;clear x4 hc4)))
    have HM2:=hid ((HM.out.ext X4.out).setX H.out (x:=(j:Int)+1) (i:=j+1) (by omega));have HC2:=hid (HC4.out.setX (x:=(j:Int)+1) (j:=j+1) (by omega) (by omega));go_roundw;case rel=>exact⟨j+1,by omega,by omega,HE2,HM2⟩
    case measure=>have e1:=HA.out;have e2:=HC2.out.at_;rw[e1];omega
 ·have hNe:needF L 123 (k+1)=.fail 2 (k+1):=by unfold needF;rw[if_neg h1]
  have HF:hexF L k=.fail 2 (k+1):=by unfold hexF;rw[if_pos (by simpa using h1)]
  rw[HF];have CN:=hid (fun W (hW:CurAt W B A n c L (k+1))=>Need_any B A n c L (k+1) 123 W hW (by omega));rw[hNe] at CN;clear h HF hNe h1;go_enter Tryz.func166,Tryz.ntmps166;go_wp2_with (go_at_call 48;((with_reducible refine (CN.out _ H1.out).mono ?_);rintro e w1 ⟨rfl,q,m1⟩;have hm1:=HM1.out.trans H.out m1));exact⟨rfl,rfl,_,hm1⟩
theorem Char_any (B:Nat) (A:Option Addr) (n c:Nat) (L:List Int) (k:Nat) (w:World) (h:CurAt w B A n c L k) :
  Calls Tryz.prog 148 #[.pointer (some ⟨B,0,none⟩)] w fun e w'=>PRet w B (charF L k) (fun a _ v=>v=.int .i32 a) e w':=by
 have H:=hid h;have HL:=hid h.row.len;have hi1:=lookF_i32 h.i32 k;have hi2:=lookF_i32 h.i32 (k+1);have hnb:=h.nb;have hle:=h.le;have C1:=hid (Peek_any B A n c L k w h);have C2:=hid (fun W=>Plain_any (lookF L k) W hi1);obtain⟨V,hV⟩:∃ V,V=charF L k:=⟨_,rfl⟩
 rw[<- hV];unfold charF at hV;have wk:IntKind.i64.wrap ((k:Int)+1)=(k:Int)+1:=IntWalk.i64_in _ (by omega);cases hp:plainB (lookF L k)
 ·rw[hp] at C2 hV;rw[if_neg (by simp)] at hV;by_cases h92:lookF L k=92
  ·have hkn:k<n:=by have:=look_lt' h92 (by omega);have:=HL.out;omega
   rw[if_neg (by simp[h92])] at hV;rw[h92] at C1 C2;have C3:=hid (fun W (hW:CurAt W B A n c L (k+1))=>Peek_any B A n c L (k+1) W hW);have CF:=hid (fun W=>Fail_any 2 ((k:Int)+1) W);have CX:=hid (fun W (hW:CurAt W B A n c L (k+1)) (hlt:k+1<n)=>hex_any B A n c L (k+1) W hW hlt);have wk2:IntKind.i64.wrap ((k:Int)+1+1)=(k:Int)+1+1:=IntWalk.i64_in _ (by omega);have hq0:0<=lookF L (k+1)->k+1<n:=fun hq=>by have:=look_lt0 hq;have:=HL.out;omega
   clear hp h92 hi1 h HL;by_cases a1:lookF L (k+1)=110
   ·have hk1:=hq0 (by omega);rw[if_pos a1] at hV;subst hV;rw[a1] at C3;clear a1 hi2 CX CF hq0;go_enter Tryz.func148,Tryz.ntmps148
    go_wp2_with (first
     | (go_at_call 46;((with_reducible refine C1.out.mono ?_);rintro e w1 ⟨rfl,x1⟩;have X1:=hid x1;clear x1))
     | (go_at_call 144;((with_reducible refine (C2.out _).mono ?_);rintro e w2 ⟨rfl,x2⟩;have X2:=hid (X1.out.trans x2);have hc2:=H.out.ext X2.out;have k1:=hc2.c1;have kz:=hc2.fz;have kl:=hc2.lt;have HC2:=hid (hc2.setX (x:=(k:Int)+1) (j:=k+1) (by omega) (by omega));have M2:=hid ((Mv.of H.out X2.out).setX H.out (x:=(k:Int)+1) (i:=k+1) (by omega));clear x2 hc2))
     | (go_at_call 46;((with_reducible refine (C3.out _ HC2.out).mono ?_);rintro e w3 ⟨rfl,x3⟩;have M3:=hid (M2.out.ext x3);have hc3:=HC2.out.ext x3;clear k1 kz kl x3;have k1:=hc3.c1;have kz:=hc3.fz;have kl:=hc3.lt;have HC3:=hid hc3;clear hc3)))
    go_ret;exact⟨_,rfl,rfl,M3.out.setX H.out (by omega)⟩
   rw[if_neg a1] at hV;by_cases a2:lookF L (k+1)=116
   ·have hk1:=hq0 (by omega);rw[if_pos a2] at hV;subst hV;rw[a2] at C3;clear a1 a2 hi2 CX CF hq0;go_enter Tryz.func148,Tryz.ntmps148
    go_wp2_with (first
     | (go_at_call 46;((with_reducible refine C1.out.mono ?_);rintro e w1 ⟨rfl,x1⟩;have X1:=hid x1;clear x1))
     | (go_at_call 144;((with_reducible refine (C2.out _).mono ?_);rintro e w2 ⟨rfl,x2⟩;have X2:=hid (X1.out.trans x2);have hc2:=H.out.ext X2.out;have k1:=hc2.c1;have kz:=hc2.fz;have kl:=hc2.lt;have HC2:=hid (hc2.setX (x:=(k:Int)+1) (j:=k+1) (by omega) (by omega));have M2:=hid ((Mv.of H.out X2.out).setX H.out (x:=(k:Int)+1) (i:=k+1) (by omega));clear x2 hc2))
     | (go_at_call 46;((with_reducible refine (C3.out _ HC2.out).mono ?_);rintro e w3 ⟨rfl,x3⟩;have M3:=hid (M2.out.ext x3);have hc3:=HC2.out.ext x3;clear k1 kz kl x3;have k1:=hc3.c1;have kz:=hc3.fz;have kl:=hc3.lt;have HC3:=hid hc3;clear hc3)))
    go_ret;exact⟨_,rfl,rfl,M3.out.setX H.out (by omega)⟩
   rw[if_neg a2] at hV;by_cases a3:lookF L (k+1)=117
   ·have hlt:=hq0 (by omega);rw[if_pos a3] at hV;rw[a3] at C3;rw[<- hV] at CX;clear a1 a2 a3 hi2 CF hV hq0
    cases V with
    | ok a j=>
     go_enter Tryz.func148,Tryz.ntmps148
     go_wp2_with (first
      | (go_at_call 46;((with_reducible refine C1.out.mono ?_);rintro e w1 ⟨rfl,x1⟩;have X1:=hid x1;clear x1))
      | (go_at_call 144;((with_reducible refine (C2.out _).mono ?_);rintro e w2 ⟨rfl,x2⟩;have X2:=hid (X1.out.trans x2);have hc2:=H.out.ext X2.out;have k1:=hc2.c1;have kz:=hc2.fz;have kl:=hc2.lt;have HC2:=hid (hc2.setX (x:=(k:Int)+1) (j:=k+1) (by omega) (by omega));have M2:=hid ((Mv.of H.out X2.out).setX H.out (x:=(k:Int)+1) (i:=k+1) (by omega));clear x2 hc2))
      | (go_at_call 46;((with_reducible refine (C3.out _ HC2.out).mono ?_);rintro e w3 ⟨rfl,x3⟩;have M3:=hid (M2.out.ext x3);have hc3:=HC2.out.ext x3;clear k1 kz kl x3;have k1:=hc3.c1;have kz:=hc3.fz;have kl:=hc3.lt;have HC3:=hid hc3;clear hc3))
      | (go_at_call 166;((with_reducible refine (CX.out _ HC3.out hlt).mono ?_);rintro e w4 ⟨v,rfl,rfl,m4⟩;have M4:=hid (M3.out.trans H.out m4);clear m4)))
     go_ret;exact⟨_,rfl,rfl,M4.out⟩
    | fail er q=>
     go_enter Tryz.func148,Tryz.ntmps148
     go_wp2_with (first
      | (go_at_call 46;((with_reducible refine C1.out.mono ?_);rintro e w1 ⟨rfl,x1⟩;have X1:=hid x1;clear x1))
      | (go_at_call 144;((with_reducible refine (C2.out _).mono ?_);rintro e w2 ⟨rfl,x2⟩;have X2:=hid (X1.out.trans x2);have hc2:=H.out.ext X2.out;have k1:=hc2.c1;have kz:=hc2.fz;have kl:=hc2.lt;have HC2:=hid (hc2.setX (x:=(k:Int)+1) (j:=k+1) (by omega) (by omega));have M2:=hid ((Mv.of H.out X2.out).setX H.out (x:=(k:Int)+1) (i:=k+1) (by omega));clear x2 hc2))
      | (go_at_call 46;((with_reducible refine (C3.out _ HC2.out).mono ?_);rintro e w3 ⟨rfl,x3⟩;have M3:=hid (M2.out.ext x3);have hc3:=HC2.out.ext x3;clear k1 kz kl x3;have k1:=hc3.c1;have kz:=hc3.fz;have kl:=hc3.lt;have HC3:=hid hc3;clear hc3))
      | (go_at_call 166;((with_reducible refine (CX.out _ HC3.out hlt).mono ?_);rintro e w4 ⟨rfl,j,m4⟩;have M4:=hid (M3.out.trans H.out m4);clear m4)))
     exact⟨rfl,rfl,j,M4.out⟩
   rw[if_neg a3] at hV;clear CX;have n1:(lookF L (k+1)==110)=false:=by simpa using a1
   have n2:(lookF L (k+1)==116)=false:=by simpa using a2
   have n3:(lookF L (k+1)==117)=false:=by simpa using a3
   clear a1 a2 a3;by_cases hbad:lookF L (k+1)<0\/digitB (lookF L (k+1))\/(97<=lookF L (k+1)/\lookF L (k+1)<=122)\/(65<=lookF L (k+1)/\lookF L (k+1)<=90)
   ·rw[if_pos hbad] at hV;subst hV
    have hbad2:lookF L (k+1)<0\/(0<=lookF L (k+1)/\48<=lookF L (k+1)/\lookF L (k+1)<=57)\/(57<lookF L (k+1)/\97<=lookF L (k+1)/\lookF L (k+1)<=122)\/(57<lookF L (k+1)/\65<=lookF L (k+1)/\lookF L (k+1)<=90):=by
     unfold digitB at hbad;simp only[Bool.and_eq_true,decide_eq_true_eq] at hbad;omega
    clear hbad hq0;generalize lookF L (k+1)=q at *;rcases hbad2 with h1 | ⟨h1,h2,h3⟩ | ⟨h1,h2,h3⟩ | ⟨h1,h2,h3⟩
    ·go_enter Tryz.func148,Tryz.ntmps148
     go_wp2_with (first
      | (go_at_call 46;((with_reducible refine C1.out.mono ?_);rintro e w1 ⟨rfl,x1⟩;have X1:=hid x1;clear x1))
      | (go_at_call 144;((with_reducible refine (C2.out _).mono ?_);rintro e w2 ⟨rfl,x2⟩;have X2:=hid (X1.out.trans x2);have hc2:=H.out.ext X2.out;have k1:=hc2.c1;have kz:=hc2.fz;have kl:=hc2.lt;have HC2:=hid (hc2.setX (x:=(k:Int)+1) (j:=k+1) (by omega) (by omega));have M2:=hid ((Mv.of H.out X2.out).setX H.out (x:=(k:Int)+1) (i:=k+1) (by omega));clear x2 hc2))
      | (go_at_call 46;((with_reducible refine (C3.out _ HC2.out).mono ?_);rintro e w3 ⟨rfl,x3⟩;have M3:=hid (M2.out.ext x3);have hc3:=HC2.out.ext x3;clear k1 kz kl x3;have k1:=hc3.c1;have kz:=hc3.fz;have kl:=hc3.lt;have HC3:=hid hc3;clear hc3))
      | (go_at_call 44;((with_reducible refine (CF.out _).mono ?_);rintro e w4 ⟨rfl,rfl⟩)))
     exact⟨rfl,rfl,_,M3.out⟩
    ·go_enter Tryz.func148,Tryz.ntmps148
     go_wp2_with (first
      | (go_at_call 46;((with_reducible refine C1.out.mono ?_);rintro e w1 ⟨rfl,x1⟩;have X1:=hid x1;clear x1))
      | (go_at_call 144;((with_reducible refine (C2.out _).mono ?_);rintro e w2 ⟨rfl,x2⟩;have X2:=hid (X1.out.trans x2);have hc2:=H.out.ext X2.out;have k1:=hc2.c1;have kz:=hc2.fz;have kl:=hc2.lt;have HC2:=hid (hc2.setX (x:=(k:Int)+1) (j:=k+1) (by omega) (by omega));have M2:=hid ((Mv.of H.out X2.out).setX H.out (x:=(k:Int)+1) (i:=k+1) (by omega));clear x2 hc2))
      | (go_at_call 46;((with_reducible refine (C3.out _ HC2.out).mono ?_);rintro e w3 ⟨rfl,x3⟩;have M3:=hid (M2.out.ext x3);have hc3:=HC2.out.ext x3;clear k1 kz kl x3;have k1:=hc3.c1;have kz:=hc3.fz;have kl:=hc3.lt;have HC3:=hid hc3;clear hc3))
      | (go_at_call 44;((with_reducible refine (CF.out _).mono ?_);rintro e w4 ⟨rfl,rfl⟩)))
     exact⟨rfl,rfl,_,M3.out⟩
    ·go_enter Tryz.func148,Tryz.ntmps148
     go_wp2_with (first
      | (go_at_call 46;((with_reducible refine C1.out.mono ?_);rintro e w1 ⟨rfl,x1⟩;have X1:=hid x1;clear x1))
      | (go_at_call 144;((with_reducible refine (C2.out _).mono ?_);rintro e w2 ⟨rfl,x2⟩;have X2:=hid (X1.out.trans x2);have hc2:=H.out.ext X2.out;have k1:=hc2.c1;have kz:=hc2.fz;have kl:=hc2.lt;have HC2:=hid (hc2.setX (x:=(k:Int)+1) (j:=k+1) (by omega) (by omega));have M2:=hid ((Mv.of H.out X2.out).setX H.out (x:=(k:Int)+1) (i:=k+1) (by omega));clear x2 hc2))
      | (go_at_call 46;((with_reducible refine (C3.out _ HC2.out).mono ?_);rintro e w3 ⟨rfl,x3⟩;have M3:=hid (M2.out.ext x3);have hc3:=HC2.out.ext x3;clear k1 kz kl x3;have k1:=hc3.c1;have kz:=hc3.fz;have kl:=hc3.lt;have HC3:=hid hc3;clear hc3))
      | (go_at_call 44;((with_reducible refine (CF.out _).mono ?_);rintro e w4 ⟨rfl,rfl⟩)))
     exact⟨rfl,rfl,_,M3.out⟩
    ·go_enter Tryz.func148,Tryz.ntmps148
     go_wp2_with (first
      | (go_at_call 46;((with_reducible refine C1.out.mono ?_);rintro e w1 ⟨rfl,x1⟩;have X1:=hid x1;clear x1))
      | (go_at_call 144;((with_reducible refine (C2.out _).mono ?_);rintro e w2 ⟨rfl,x2⟩;have X2:=hid (X1.out.trans x2);have hc2:=H.out.ext X2.out;have k1:=hc2.c1;have kz:=hc2.fz;have kl:=hc2.lt;have HC2:=hid (hc2.setX (x:=(k:Int)+1) (j:=k+1) (by omega) (by omega));have M2:=hid ((Mv.of H.out X2.out).setX H.out (x:=(k:Int)+1) (i:=k+1) (by omega));clear x2 hc2))
      | (go_at_call 46;((with_reducible refine (C3.out _ HC2.out).mono ?_);rintro e w3 ⟨rfl,x3⟩;have M3:=hid (M2.out.ext x3);have hc3:=HC2.out.ext x3;clear k1 kz kl x3;have k1:=hc3.c1;have kz:=hc3.fz;have kl:=hc3.lt;have HC3:=hid hc3;clear hc3))
      | (go_at_call 44;((with_reducible refine (CF.out _).mono ?_);rintro e w4 ⟨rfl,rfl⟩)))
     exact⟨rfl,rfl,_,M3.out⟩
   ·rw[if_neg hbad] at hV
    have hok:0<=lookF L (k+1)/\(lookF L (k+1)<48\/(57<lookF L (k+1)/\lookF L (k+1)<65)\/(90<lookF L (k+1)/\lookF L (k+1)<97)\/122<lookF L (k+1)):=by
     unfold digitB at hbad;simp only[Bool.and_eq_true,decide_eq_true_eq] at hbad;omega
    have hk1:=hq0 hok.1;subst hV;clear hbad hq0;generalize lookF L (k+1)=q at *;obtain⟨h0,h1 | ⟨h1,h2⟩ | ⟨h1,h2⟩ | h1⟩:=hok
    ·go_enter Tryz.func148,Tryz.ntmps148
     go_wp2_with (first
      | (go_at_call 46;((with_reducible refine C1.out.mono ?_);rintro e w1 ⟨rfl,x1⟩;have X1:=hid x1;clear x1))
      | (go_at_call 144;((with_reducible refine (C2.out _).mono ?_);rintro e w2 ⟨rfl,x2⟩;have X2:=hid (X1.out.trans x2);have hc2:=H.out.ext X2.out;have k1:=hc2.c1;have kz:=hc2.fz;have kl:=hc2.lt;have HC2:=hid (hc2.setX (x:=(k:Int)+1) (j:=k+1) (by omega) (by omega));have M2:=hid ((Mv.of H.out X2.out).setX H.out (x:=(k:Int)+1) (i:=k+1) (by omega));clear x2 hc2))
      | (go_at_call 46;((with_reducible refine (C3.out _ HC2.out).mono ?_);rintro e w3 ⟨rfl,x3⟩;have M3:=hid (M2.out.ext x3);have hc3:=HC2.out.ext x3;clear k1 kz kl x3;have k1:=hc3.c1;have kz:=hc3.fz;have kl:=hc3.lt;have HC3:=hid hc3;clear hc3)))
     go_ret;exact⟨_,rfl,rfl,M3.out.setX H.out (by omega)⟩
    ·go_enter Tryz.func148,Tryz.ntmps148
     go_wp2_with (first
      | (go_at_call 46;((with_reducible refine C1.out.mono ?_);rintro e w1 ⟨rfl,x1⟩;have X1:=hid x1;clear x1))
      | (go_at_call 144;((with_reducible refine (C2.out _).mono ?_);rintro e w2 ⟨rfl,x2⟩;have X2:=hid (X1.out.trans x2);have hc2:=H.out.ext X2.out;have k1:=hc2.c1;have kz:=hc2.fz;have kl:=hc2.lt;have HC2:=hid (hc2.setX (x:=(k:Int)+1) (j:=k+1) (by omega) (by omega));have M2:=hid ((Mv.of H.out X2.out).setX H.out (x:=(k:Int)+1) (i:=k+1) (by omega));clear x2 hc2))
      | (go_at_call 46;((with_reducible refine (C3.out _ HC2.out).mono ?_);rintro e w3 ⟨rfl,x3⟩;have M3:=hid (M2.out.ext x3);have hc3:=HC2.out.ext x3;clear k1 kz kl x3;have k1:=hc3.c1;have kz:=hc3.fz;have kl:=hc3.lt;have HC3:=hid hc3;clear hc3)))
     go_ret;exact⟨_,rfl,rfl,M3.out.setX H.out (by omega)⟩
    ·go_enter Tryz.func148,Tryz.ntmps148
     go_wp2_with (first
      | (go_at_call 46;((with_reducible refine C1.out.mono ?_);rintro e w1 ⟨rfl,x1⟩;have X1:=hid x1;clear x1))
      | (go_at_call 144;((with_reducible refine (C2.out _).mono ?_);rintro e w2 ⟨rfl,x2⟩;have X2:=hid (X1.out.trans x2);have hc2:=H.out.ext X2.out;have k1:=hc2.c1;have kz:=hc2.fz;have kl:=hc2.lt;have HC2:=hid (hc2.setX (x:=(k:Int)+1) (j:=k+1) (by omega) (by omega));have M2:=hid ((Mv.of H.out X2.out).setX H.out (x:=(k:Int)+1) (i:=k+1) (by omega));clear x2 hc2))
      | (go_at_call 46;((with_reducible refine (C3.out _ HC2.out).mono ?_);rintro e w3 ⟨rfl,x3⟩;have M3:=hid (M2.out.ext x3);have hc3:=HC2.out.ext x3;clear k1 kz kl x3;have k1:=hc3.c1;have kz:=hc3.fz;have kl:=hc3.lt;have HC3:=hid hc3;clear hc3)))
     go_ret;exact⟨_,rfl,rfl,M3.out.setX H.out (by omega)⟩
    ·go_enter Tryz.func148,Tryz.ntmps148
     go_wp2_with (first
      | (go_at_call 46;((with_reducible refine C1.out.mono ?_);rintro e w1 ⟨rfl,x1⟩;have X1:=hid x1;clear x1))
      | (go_at_call 144;((with_reducible refine (C2.out _).mono ?_);rintro e w2 ⟨rfl,x2⟩;have X2:=hid (X1.out.trans x2);have hc2:=H.out.ext X2.out;have k1:=hc2.c1;have kz:=hc2.fz;have kl:=hc2.lt;have HC2:=hid (hc2.setX (x:=(k:Int)+1) (j:=k+1) (by omega) (by omega));have M2:=hid ((Mv.of H.out X2.out).setX H.out (x:=(k:Int)+1) (i:=k+1) (by omega));clear x2 hc2))
      | (go_at_call 46;((with_reducible refine (C3.out _ HC2.out).mono ?_);rintro e w3 ⟨rfl,x3⟩;have M3:=hid (M2.out.ext x3);have hc3:=HC2.out.ext x3;clear k1 kz kl x3;have k1:=hc3.c1;have kz:=hc3.fz;have kl:=hc3.lt;have HC3:=hid hc3;clear hc3)))
     go_ret;exact⟨_,rfl,rfl,M3.out.setX H.out (by omega)⟩
  ·rw[if_pos h92] at hV;subst hV;have CF:=hid (fun W=>Fail_any 2 k W);have n0:(lookF L k != 92)=true:=by simpa using h92
   clear hp h hi2 h92;generalize lookF L k=r at *;go_enter Tryz.func148,Tryz.ntmps148
   go_wp2_with (first
    | (go_at_call 46;((with_reducible refine C1.out.mono ?_);rintro e w1 ⟨rfl,x1⟩;have X1:=hid x1;clear x1))
    | (go_at_call 144;((with_reducible refine (C2.out _).mono ?_);rintro e w2 ⟨rfl,x2⟩;have X2:=hid (X1.out.trans x2);have hc2:=H.out.ext X2.out;have k1:=hc2.c1;have kl:=hc2.lt;clear x2 hc2))
    | (go_at_call 44;((with_reducible refine (CF.out _).mono ?_);rintro e w4 ⟨rfl,rfl⟩)))
   exact⟨rfl,rfl,_,Mv.of H.out X2.out⟩
 ·rw[hp] at C2 hV;rw[if_pos rfl] at hV;have hkn:k<n:=by have:=scanF_lt plain_end hp;have:=HL.out;omega
  subst hV;clear hp h hi2;generalize lookF L k=r at *;go_enter Tryz.func148,Tryz.ntmps148
  go_wp2_with (first
   | (go_at_call 46;((with_reducible refine C1.out.mono ?_);rintro e w1 ⟨rfl,x1⟩;have X1:=hid x1;clear x1))
   | (go_at_call 144;((with_reducible refine (C2.out _).mono ?_);rintro e w2 ⟨rfl,x2⟩;have X2:=hid (X1.out.trans x2);have hc2:=H.out.ext X2.out;have k1:=hc2.c1;have kz:=hc2.fz;have kl:=hc2.lt;have HC2:=hid (hc2.setX (x:=(k:Int)+1) (j:=k+1) (by omega) (by omega));have M2:=hid ((Mv.of H.out X2.out).setX H.out (x:=(k:Int)+1) (i:=k+1) (by omega));clear x2 hc2)))
  go_ret;exact⟨_,rfl,rfl,(Mv.of H.out X2.out).setX H.out (by omega)⟩
end Go.Proofs.YthomjcjnalfipaaGreatDoor
