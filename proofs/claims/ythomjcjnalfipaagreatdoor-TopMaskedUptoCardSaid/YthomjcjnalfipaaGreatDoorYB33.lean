/- A part of the proofs of the Top laws. -/
import Derived.Deep.Cut
import Derived.Deep.CutRange
import Derived.Test.YthomjcjnalfipaaGreatDoorRows
import Derived.ProofKit
import Derived.OpenShut
import Derived.ChangeOld
import Derived.Deep.Fields
import Derived.Test.YthomjcjnalfipaaGreatDoorYB32
set_option linter.all false
set_option maxRecDepth 100000
set_option maxHeartbeats 8000000
open Go.Lib (hid)
namespace Go.Proofs.YthomjcjnalfipaaGreatDoor
open Go.RowKit
theorem aside_set {O0:Nat->Prop} {a w:World} {K:Nat} (h:Aside (fun b=>O0 b\/K<=b) a w) {b:Nat} (hb:K<=b) (o:Nat) (v:Value):Aside (fun b=>O0 b\/K<=b) a (w.setCell ⟨b,o,none⟩ v):=h.setCell (p:=⟨b,o,none⟩) (.inr hb) v
theorem Buf.atQ {So:Nat->Prop} {w:World} {pb:Nat} {t:List Int} {a:Nat} (h:Buf So w pb t a) (j:Nat):Calls Tryz.prog 101 #[.pointer (some ⟨pb,0,none⟩)] (w.drewN j) fun e w'=>e=.returned (.int .i64 a)/\∃ k,w'=w.drewN k:=by
 refine (Buf.at (Buf.ext h ((Ext.refl w).drewN j))).mono ?_;rintro _ _ ⟨rfl,rfl⟩;exact⟨rfl,j,rfl⟩
section
variable {T : (Nat -> Prop) -> World -> List (Int × Int) -> Prop} {g : FuncId} {caps : Array Value} {O0 okR : Nat -> Prop} (A : Option Addr) (n c : Nat) (l : List Rule) (X : Option Addr) (m d : Nat) (t : List Int) (w : World)
theorem play_plays (TT:Told T g caps) (R:SlR (rRuleO okR) 7 okR w A n c l) (hokR:∀ b,okR b->b<w.heap.size/\¬ O0 b) (ht:Runes w X m d t) (hT:T O0 w []) (hr:(wrongRules l).1=0) (hx:wrongText t=0) (hc:compE l=0) :
  Calls Tryz.prog 68 #[.slice A n c,.slice X m d,.func (.func g) #[] caps] w (PlayR T O0 w l t):=by
 have h:Rules w A n c l:=R.mono (fun _ _ h=>rRuleO_top h) (fun _ _=>trivial);have e1:Ext w ((w.alloc (.cells #[.slice none 0 0,.int .i64 0,.int .i64 0] 49)).alloc (.cells #[.int .i64 0,.int .i64 0] 34)):=((Ext.refl w).alloc _).alloc _;have k0:((w.alloc (.cells #[.slice none 0 0,.int .i64 0,.int .i64 0] 49)).alloc (.cells #[.int .i64 0,.int .i64 0] 34)).cell? ⟨w.heap.size,0,none⟩=some (.slice none 0 0):=by simp
 have k1:((w.alloc (.cells #[.slice none 0 0,.int .i64 0,.int .i64 0] 49)).alloc (.cells #[.int .i64 0,.int .i64 0] 34)).cell? ⟨w.heap.size,1,none⟩=some (.int .i64 0):=by simp
 have k2:((w.alloc (.cells #[.slice none 0 0,.int .i64 0,.int .i64 0] 49)).alloc (.cells #[.int .i64 0,.int .i64 0] 34)).cell? ⟨w.heap.size,2,none⟩=some (.int .i64 0):=by simp
 have k3:((w.alloc (.cells #[.slice none 0 0,.int .i64 0,.int .i64 0] 49)).alloc (.cells #[.int .i64 0,.int .i64 0] 34)).cell? ⟨w.heap.size+1,0,none⟩=some (.int .i64 0):=by simp
 have k4:((w.alloc (.cells #[.slice none 0 0,.int .i64 0,.int .i64 0] 49)).alloc (.cells #[.int .i64 0,.int .i64 0] 34)).cell? ⟨w.heap.size+1,1,none⟩=some (.int .i64 0):=by simp
 have wa:=(Wr.new w #[.slice none 0 0,.int .i64 0,.int .i64 0] 49).ext ((Ext.refl _).alloc (.cells #[.int .i64 0,.int .i64 0] 34));have wb:=Wr.new (w.alloc (.cells #[.slice none 0 0,.int .i64 0,.int .i64 0] 49)) #[.int .i64 0,.int .i64 0] 34;rw[World.size_alloc] at wb;obtain⟨hr0,hl2,hok⟩:=wrongRules_zero hr;have HR:=hid hr0;have HX:=hid hx;have hm:m<=4000:=by rw[<- ht.len];exact (text_of hx).1
 have htr:=hid (text_of hx).2;have htl:=hid ht.len;have hn2:n<=200:=by rw[<- R.len];exact hl2
 have OK:=hid hok;have RL:=hid hl2;have HC:=hid (Wrongs_any A n c l _ (h.ext e1));have HT:=hid (fun W (e:Ext w W)=>Text_any X m d t W (ht.ext e));have HCo:=hid (fun W (e:Ext w W)=>Compile_ok A n c l W (h.ext e) hr);have HNw:=hid (fun W (e:Ext w W)=>gNew_any (ht.ext e) hm);have h4:Hid (¬ 400<(headsF l).length):=hid fun hh=>by unfold compE at hc;rw[if_pos hh] at hc;cases hc
 have HCK:Hid (checkRun l t=(0,0)):=hid (by rw[checkRun_text hr,hx]);have HVE:Hid (vmE l t=((runText l t).err,0)):=hid (by unfold vmE;rw[HCK.out,hc];rfl);obtain⟨nh,hnh⟩:∃ z,(headsF l).length=z:=⟨_,rfl⟩
 have HNH:=hid hnh;have RR:=hid R;have HOKR:=hid hokR;have TT0:=hid hT;have eg:=TT.eg;clear hr0 hr hx hc R hokR hT hok hl2 h hnh;obtain⟨L,hL⟩:∃ L:Nat,L=8*m+40:=⟨_,rfl⟩
 have hL2:L<=40000:=by omega
 have HLim:=hid hL;clear hL;have HRT:Hid (runText l t=play l L ⟨t,0,0,0⟩):=hid (by unfold runText;rw[htl.out,HLim.out]);have HSH:Hid (shotsF l t=shots l L ⟨t,0,0,0⟩):=hid (by unfold shotsF;rw[htl.out,HLim.out]);have O0lt:=hid (TT.lt TT0.out);go_enter Tryz.func68,Tryz.ntmps68;go_wp2_with fail;generalize (w.alloc (.cells #[.slice none 0 0,.int .i64 0,.int .i64 0] 49)).alloc (.cells #[.int .i64 0,.int .i64 0] 34)=w1 at *
 go_wp2_with (first
  | (go_at_call 28;refine HC.out.mono ?_;rintro e w2 ⟨rfl,hx2⟩;rw[HR.out];have x2:=hx2.alloc (.cells #[.int .i64 0,.int .i64 0] 34))
  | (go_at_call 25;refine (HT.out _ (e1.trans x2)).mono ?_;rintro e w3 ⟨rfl,hx3⟩;rw[HX.out];have x3:=x2.trans hx3)
  | (go_at_call 99;refine (HCo.out _ (e1.trans x3)).mono ?_;rintro e w4 ⟨hpost,hx4⟩;unfold CompPost at hpost;rw[if_neg h4.out] at hpost;obtain⟨v,rfl,rh⟩:=hpost;obtain⟨B,hdc,hv⟩:=rh.form;rw[HNH.out] at hv;subst hv;have x4:=x3.trans hx4;have x5:=x4.alloc (.cells #[.int .i64 0,.int .i64 0] 34))
  | (go_at_call 100;refine (HNw.out _ (e1.trans x5)).mono ?_;rintro e w6 ⟨pb,rfl,hx6,hB⟩;have x6:=x5.trans hx6)
  | (go_at_call 33;refine (Limit_any m _ hm).mono ?_;rintro e w' ⟨rfl,rfl⟩;rw[<- HLim.out]))
 have s1:=e1.size;have s5:w4.heap.size<(w4.alloc (.cells #[.int .i64 0,.int .i64 0] 34)).heap.size:=by simp
 have s3:=(e1.trans x3).size;have s6:=hx6.size;have hs2:w.heap.size+2<=w1.heap.size:=wb.1;have s13:=x3.size;have s34:=hx4.size;have M0:=hid (MaV.new w6 (some ⟨pb,0,none⟩) A n c B nh hdc L none 0 0 0 0 172);have xm:=(Ext.refl w6).alloc (.cells #[.pointer (some ⟨pb,0,none⟩),.slice A n c,.slice B nh hdc,.int .i64 L,.slice none 0 0,.int .i64 0,.int .i64 0] 172);have x46:=((Ext.refl w4).alloc (.cells #[.int .i64 0,.int .i64 0] 34)).trans hx6;have hok1:∀ b,O0 b->b<w.heap.size:=fun b hb=>O0lt.out b hb;have HH:=hid ((SlR.ext (fam_hd.keep _) (rh.inOk fam_hd (by omega) (ok:=fun b=>b<(w4.alloc (.cells #[.int .i64 0,.int .i64 0] 34)).heap.size/\¬ O0 b) fun b h1 h2=>⟨by omega,fun ho=>by have:=hok1 b ho;omega⟩) x46).ext (fam_hd.keep _) xm);have RR2:=hid ((RR.out.mono (fun vs r hr=>mono_ruleO (fun b hb=>⟨by have:=(HOKR.out b hb).1;omega,(HOKR.out b hb).2⟩) hr) (fun b hb=>(⟨by have:=(HOKR.out b hb).1;omega,(HOKR.out b hb).2⟩:b<(w4.alloc (.cells #[.int .i64 0,.int .i64 0] 34)).heap.size/\¬ O0 b))).ext (keep_ruleO _) ((e1.trans x6).trans xm));have BB:=hid (Buf.ext (Buf.re hB (So':=playSo (w4.alloc (.cells #[.int .i64 0,.int .i64 0] 34)).heap.size w6.heap.size O0) fun b h1 h2=>⟨h2,by omega,fun ho=>by have:=hok1 b ho;omega⟩) xm);have TT7:=hid (TT.keep (S:=fun _=>False) TT0.out (Aside.ofExt ((e1.trans x6).trans xm)) (fun _ _ h=>h));have x7:=x6.trans xm;have E7:=hid ((e1.trans x6).trans xm);have FX0:=hid (And.intro (x7.cell k0) (And.intro (x7.cell k1) (And.intro (x7.cell k2) (And.intro (x7.cell k3) (And.intro (x7.cell k4) (And.intro (wa.ext x7) (wb.ext x7)))))));have hm7:w6.heap.size<(w6.alloc (.cells #[.pointer (some ⟨pb,0,none⟩),.slice A n c,.slice B nh hdc,.int .i64 L,.slice none 0 0,.int .i64 0,.int .i64 0] 172)).heap.size:=by simp
 clear rh hx2 hx3 hx4 hx6 x2 x3 x4 x5 x6 x7 x46 xm hB k0 k1 k2 k3 k4 wa wb HC HT HCo HNw e1;generalize w6.alloc (.cells #[.pointer (some ⟨pb,0,none⟩),.slice A n c,.slice B nh hdc,.int .i64 L,.slice none 0 0,.int .i64 0,.int .i64 0] 172)=w7 at *;generalize (w4.alloc (.cells #[.int .i64 0,.int .i64 0] 34)).heap.size=K at *;generalize w6.heap.size=mb at *;have hKw:w.heap.size+2<=K:=by omega
 have hmK:K<=mb:=by omega
 have S0:StAt (playSo K mb O0) (fun b=>b<K/\¬ O0 b) w7 mb pb A n c l B nh hdc L none 0 0 t 0 0 0:=⟨M0.out,BB.out,RR2.out,HH.out⟩
 have FX:Hid (∀ W,Aside (fun b=>O0 b\/K<=b) w7 W->W.cell? ⟨w.heap.size,0,none⟩=some (.slice none 0 0)/\W.cell? ⟨w.heap.size,1,none⟩=some (.int .i64 0)/\W.cell? ⟨w.heap.size,2,none⟩=some (.int .i64 0) /\
   W.cell? ⟨w.heap.size+1,0,none⟩=some (.int .i64 0)/\W.cell? ⟨w.heap.size+1,1,none⟩=some (.int .i64 0)/\Wr W w.heap.size/\Wr W (w.heap.size+1)):=hid fun W hS=>by
  obtain⟨f0,f1,f2,f3,f4,fa,fb⟩:=FX0.out;have n1:¬ (O0 w.heap.size\/K<=w.heap.size):=fun hh=>by rcases hh with hh | hh;(have:=hok1 _ hh;omega);omega
  have n2:¬ (O0 (w.heap.size+1)\/K<=w.heap.size+1):=fun hh=>by rcases hh with hh | hh;(have:=hok1 _ hh;omega);omega
  exact⟨hS.cell f0 n1,hS.cell f1 n1,hS.cell f2 n1,hS.cell f3 n2,hS.cell f4 n2,fa.keepB (hS.block _ fa.1 n1) hS.size,fb.keepB (hS.block _ fb.1 n2) hS.size⟩
 have ht4:t.length<=4000:=by rw[htl.out];exact hm
 clear M0 BB RR2 HH FX0 RR HOKR
 go_loopg [49] L (fun k v wr=>∃ (O:Nat->Prop) (x:List (Int×Int)) (tx:List Int) (a s p:Nat),StAt (playSo K mb O) (fun b=>b<K/\¬ O0 b) wr mb pb A n c l B nh hdc L none 0 0 tx a s p/\Hid (T O wr x)/\(∀ b,O b->b≠mb/\(O0 b\/K<=b))/\a<=tx.length/\tx.length<=4000 /\
  tx.all right=true/\s+k=L/\p<=s/\Hid (runText l t=play l k ⟨tx,a,s,p⟩)/\Hid (shotsF l t=x++shots l k ⟨tx,a,s,p⟩)/\x.length<=s/\Aside (fun b=>O0 b\/K<=b) w7 wr)
 case atStart=>exact⟨O0,[],t,0,0,0,S0,TT7,fun b hb=>⟨by have:=hok1 b hb;omega,.inl hb⟩,by omega,ht4,htr.out,by omega,by omega,HRT,HSH,by simp,Aside.refl _ _⟩
 case round=>
  obtain⟨O,x,tx,a,s,p,S,HTx,hO,ha,hn4,htrx,hsk,hps,HP,HSx,hxl,hsd⟩:=hrel;obtain⟨nt,hnt⟩:∃ z,tx.length=z:=⟨_,rfl⟩
  have SS:=hid S;have m0:=S.M.h0;have HA:=hid (fun j=>Buf.atQ S.Bf j);have HL:=hid (fun j=>maLen_quiet S.Bf hnt j);have HTR:=hid htrx;have hnt4:nt<=4000:=by omega
  have ha':a<=nt:=by omega
  have HNT:=hid hnt;clear S htrx ha hn4 S0 TT7 hnt;by_cases hlt:a<nt
  ·have hlti:(a:Int)<(nt:Int):=by omega
   have hltd:decide ((a:Int)<(nt:Int))=true:=decide_eq_true hlti;go_wp2;go_quiet ((first | (go_at_call 101;exact HA.out _) | (go_at_call 102;exact HL.out _)));have D0:=(Ext.refl wr).drewN nq;have S1:=hid (SS.out.ext D0);have T1:=hid (TT.keep (S:=fun _=>False) HTx.out (Aside.ofExt D0) (fun _ _ h=>h));have hsd1:=hid (hsd.trans (Aside.ofExt D0));clear m0 HA HL hsd SS HTx D0;generalize wr.drewN nq=w8 at *;have hmbS:¬ playSo K mb O mb:=fun hh=>hh.2.1 rfl;have hoS:∀ b,(b<K/\¬ O0 b)->¬ playSo K mb O b/\b≠mb:=fun b hb=>⟨fun hh=>by have:=hh.1;omega,by omega⟩
   have hnewS:∀ b,w8.heap.size<=b->playSo K mb O b:=fun b hb=>⟨by have:=S1.out.M.lt.1;omega,by have:=S1.out.M.lt.1;omega,fun ho=>by have:=TT.lt T1.out b ho;omega⟩
   have HSt:=hid (mStep_any mb pb a nt tx A n c l B nh hdc L s p none 0 0 w8 S1.out hmbS hoS hnewS HNT.out hnt4 hlt HTR.out OK.out hn2 (by have:=h4.out;have:=HNH.out;omega) hL2 (by omega) hps);have HAt:=hid (Buf.at S1.out.Bf);have m0:=S1.out.M.h0
   have hmono:∀ b,(playSo K mb O b\/b=mb)->(O0 b\/K<=b):=fun b hb=>by
    rcases hb with hb | hb
    ·exact .inr hb.1
    ·right;omega
   have HMO:=hid hmono;have hla:a<tx.length:=by rw[HNT.out];exact hlt
   clear hmono hmbS hoS hnewS hlti hltd;by_cases hsL:s=L
   ·have HE:=hid (show runText l t=⟨[],0,0,9⟩ by rw[HP.out,show gk=0 by omega,play_out hla]);have hv:Hid (vmE l t=(9,0)):=hid (by rw[HVE.out,HE.out])
    go_wp2_with (first
     | (go_at_call 101;refine HAt.out.mono ?_;rintro e w9 ⟨rfl,rfl⟩)
     | (go_at_call 103;refine HSt.out.mono ?_;rintro e w9 ⟨hS9,he⟩;rw[if_pos hsL] at he;subst he;have hs9:=hsd1.out.trans (hS9.mono HMO.out);obtain⟨v0,v1,v2,v3,v4,va,vb⟩:=FX.out _ hs9;have va2:=va.2;have vb2:=vb.2;have n1:=va.1;have n2':=vb.1))
    refine bodyPost_ret (v:=.tuple #[.agg #[.slice none 0 0,.int .i64 0,.int .i64 0],.agg #[.int .i64 9,.int .i64 0]]) (by simp[results,Tryz.results68,go_sem,v0,v1,v2,v3,v4,n1,n2']) rfl ?_;refine PlayR.bad ?_ hv.out (by omega) rfl rfl;have hb9:Aside (fun b=>O0 b\/w.heap.size<=b) w w9:=(Aside.ofExt E7.out).trans (hs9.mono (fun b hb=>hb.imp (fun h=>h) (fun h=>Nat.le_trans (by omega) h)))
    repeat (first | exact hb9 | refine aside_set ?_ (by omega) _ _)
   ·obtain⟨k',hk'⟩:∃ k',gk=k'+1:=⟨gk-1,by omega⟩
    cases hps2:playStep l ⟨tx,a,s,p⟩ with
    | none=>
     have HPS:=hid hps2;have HE:=hid (show runText l t=⟨[],0,0,4⟩ by rw[HP.out,hk',play_none hla HPS.out]);have hv:Hid (vmE l t=(4,0)):=hid (by rw[HVE.out,HE.out]);clear hps2
     go_wp2_with (first
      | (go_at_call 101;refine HAt.out.mono ?_;rintro e w9 ⟨rfl,rfl⟩)
      | (go_at_call 103;refine HSt.out.mono ?_;rintro e w9 ⟨hS9,he⟩;rw[if_neg hsL,HPS.out] at he;subst he;have hs9:=hsd1.out.trans (hS9.mono HMO.out);obtain⟨v0,v1,v2,v3,v4,va,vb⟩:=FX.out _ hs9;have va2:=va.2;have vb2:=vb.2;have n1:=va.1;have n2':=vb.1))
     refine bodyPost_ret (v:=.tuple #[.agg #[.slice none 0 0,.int .i64 0,.int .i64 0],.agg #[.int .i64 4,.int .i64 0]]) (by simp[results,Tryz.results68,go_sem,v0,v1,v2,v3,v4,n1,n2']) rfl ?_;refine PlayR.bad ?_ hv.out (by omega) rfl rfl;have hb9:Aside (fun b=>O0 b\/w.heap.size<=b) w w9:=(Aside.ofExt E7.out).trans (hs9.mono (fun b hb=>hb.imp (fun h=>h) (fun h=>Nat.le_trans (by omega) h)))
     repeat (first | exact hb9 | refine aside_set ?_ (by omega) _ _)
    | some y=>
     have HPS:=hid hps2;obtain⟨ytx,ya,ys,yp⟩:=y;obtain⟨q1,q2,q3,q4,q5⟩:=step_keeps OK.out (by rw[HNT.out];exact hnt4) hla HTR.out hps2;dsimp only at q1 q2 q3 q4 q5;have Q1:=hid q2;have HP2:=hid (show runText l t=play l k' ⟨ytx,ya,ys,yp⟩ by rw[HP.out,hk',play_next hla HPS.out]);have HS2:=hid (show shotsF l t=(x++[((a:Int),first l tx a)])++shots l k' ⟨ytx,ya,ys,yp⟩ by rw[HSx.out,hk',shots_next hla HPS.out,List.append_assoc];rfl)
     have hfb:i64 (first l tx a):=by
      have h1:=(idxFrom_le (fun r=>here r tx a) 0 l).1;have h2:=(idxFrom_le (fun r=>here r tx a) 0 l).2;have h3:=RL.out;unfold first i64
      omega
     have hab:i64 (a:Int):=by unfold i64;omega
     clear hps2 q2
     go_wp2_with (first
      | (go_at_call 101;refine HAt.out.mono ?_;rintro e w9 ⟨rfl,rfl⟩)
      | (go_at_call 103;refine HSt.out.mono ?_;rintro e w9 ⟨hS9,he⟩;rw[if_neg hsL,HPS.out] at he;obtain⟨rfl,S9⟩:=he;have hs9:=hsd1.out.trans (hS9.mono HMO.out);have T9:=hid (TT.keep T1.out hS9 (fun b hb hh=>by rcases hh with hh | hh;exact hh.2.2 hb;exact (hO b hb).1 hh))))
     refine (TT.call T9.out (by omega) hab hfb).mono ?_;rintro e w10 ⟨rfl,O',hT',hS',hO'⟩;have sz9:=S9.M.lt.1;have hKm:K<=mb:=hmK
     have SA:=hid (S9.aside (So':=playSo K mb O') hS' (fun b hb hs ho=>(hO' b ho).elim hs.2.2 (fun h=>by omega)) (fun b hb ho=>by
       rcases hO' b ho with h | h
       ·rcases (hO b h).2 with h2 | h2
        ·exact hb.2 h2
        ·omega
       ·omega) (fun ho=>(hO' mb ho).elim (fun h=>(hO mb h).1 rfl) (fun h=>by omega)) (fun b hb hs=>⟨hs.1,hs.2.1,fun ho=>(hO' b ho).elim hs.2.2 (fun h=>by omega)⟩))
     have HT':=hid hT'
     have hO2:∀ b,O' b->b≠mb/\(O0 b\/K<=b):=fun b hb=>by
      rcases hO' b hb with h | h
      ·exact hO b h
      ·exact⟨by omega,.inr (by omega)⟩
     have HO2:=hid hO2;have hs10:=hid (hs9.trans (hS'.mono fun b hb=>(hO2 b hb).2));have hgk:gk-1=k':=by omega
     clear hO2 hO' hT' hS' S9 hs9;go_wp2;go_roundg (gk-1);case rel=>exact⟨O',x++[((a:Int),first l tx a)],ytx,ya,ys,yp,SA.out,HT',HO2.out,q3,q1,Q1.out,by omega,by omega,by rw[hgk];exact HP2,by rw[hgk];exact HS2,by simp;omega,hs10.out⟩
     case measure=>omega
  ·have hlti:¬ (a:Int)<(nt:Int):=by omega
   have hltd:decide ((a:Int)<(nt:Int))=false:=decide_eq_false hlti;have hla:¬ a<tx.length:=by rw[HNT.out];exact hlt
   have HE:=hid (show runText l t=⟨tx,s,p,0⟩ by rw[HP.out,play_end hla]);have HSE:=hid (show shotsF l t=x by rw[HSx.out,shots_end hla,List.append_nil]);have hv:Hid (vmE l t=(0,0)):=hid (by rw[HVE.out,HE.out]);have hvv:Hid (vmV l t=tx):=hid (by unfold vmV;rw[hv.out,if_neg (by simp),HE.out]);clear hla;go_wp2;go_quiet ((first | (go_at_call 101;exact HA.out _) | (go_at_call 102;exact HL.out _)));have D0:=(Ext.refl wr).drewN nq;have S1:=hid (SS.out.ext D0);have T1:=hid (TT.keep (S:=fun _=>False) HTx.out (Aside.ofExt D0) (fun _ _ h=>h));have hsd1:=hid (hsd.trans (Aside.ofExt D0));clear m0 HA HL hsd SS HTx D0 hlti hltd;generalize wr.drewN nq=w8 at *;have m0:=S1.out.M.h0;have hm8:=S1.out.M.lt.1;go_upto_region 18 with (go_at_call 104;refine (gRunes_any S1.out.Bf).mono ?_;rintro e w9 ⟨v,rfl,hx9,ow⟩;obtain⟨AV,cV,rfl,sV⟩:=ow.sl;rw[HNT.out] at sV ⊢;have S2:=hid (S1.out.ext hx9);have y4:=S2.out.M.h4;have yz:=S2.out.M.fz;have yl:=S2.out.M.lt);have M3:=hid (S2.out.M.set4 AV nt cV);have hs10:=hsd1.out.trans (aside_set (Aside.ofExt hx9) hmK 4 (.slice AV nt cV));have sV2:=hid (sV.keep (keep_rune _) ((agree_set mb 4 w9 (.slice AV nt cV)).mono (fun b hb=>by omega)));have T10:=hid (TT.keep (S:=fun b=>b=mb) T1.out (Aside.setCell (So:=fun b=>b=mb) (p:=⟨mb,4,none⟩) (Aside.ofExt hx9) rfl (.slice AV nt cV)) (fun b hb h=>(hO b hb).1 h));clear y4 yz yl S2 sV ow hx9 m0;generalize w9.setCell ⟨mb,4,none⟩ (.slice AV nt cV)=w10 at *;have u4:=M3.out.h4;have u5:=M3.out.h5;have u6:=M3.out.h6;obtain⟨v0,v1,v2,v3,v4,va,vb⟩:=FX.out _ hs10;have va2:=va.2;have vb2:=vb.2;have n1:=va.1;have n2':=vb.1;go_wp2;refine bodyPost_ret (v:=.tuple #[.agg #[.slice AV nt cV,.int .i64 s,.int .i64 p],.agg #[.int .i64 0,.int .i64 0]]) (by simp[results,Tryz.results68,go_sem,v0,v1,v2,v3,v4,n1,n2']) rfl ?_;have hb10:Aside (fun b=>O0 b\/w.heap.size<=b) w w10:=(Aside.ofExt E7.out).trans (hs10.mono (fun b hb=>hb.imp (fun h=>h) (fun h=>Nat.le_trans (by omega) h)));refine⟨by repeat (first | exact hb10 | refine aside_set ?_ (by omega) _ _),?_⟩;rw[hv.out,if_neg (by simp)]
   have hOw:∀ b,O b->¬ (b=w.heap.size\/b=w.heap.size+1):=fun b hb hh=>by
    rcases (hO b hb).2 with h | h
    ·have:=hok1 b h;omega
    ·omega
   refine⟨AV,nt,cV,s,p,O,rfl,?_,?_,fun b hb=>(hO b hb).2.imp (fun h=>h) (fun h=>by omega)⟩
   ·rw[hvv.out];refine (sV2.out.keep (keep_rune _) (fun b hb hl=>?_)).mono (fun _ _ h=>h) (fun b hb=>by omega);have q1:b≠w.heap.size:=by omega
    have q2:b≠w.heap.size+1:=by omega
    simp only[heap_setB q1,heap_setB q2]
   ·rw[HSE.out];refine TT.keep (S:=fun b=>b=w.heap.size\/b=w.heap.size+1) T10.out ?_ hOw;exact (((((Aside.refl _ w10).setCell (p:=⟨w.heap.size,0,none⟩) (.inl rfl) _).setCell (p:=⟨w.heap.size,1,none⟩) (.inl rfl) _).setCell (p:=⟨w.heap.size,2,none⟩) (.inl rfl) _).setCell (p:=⟨w.heap.size+1,0,none⟩) (.inr rfl) _).setCell (p:=⟨w.heap.size+1,1,none⟩) (.inr rfl) _
end
section
variable {T : (Nat -> Prop) -> World -> List (Int × Int) -> Prop} {g : FuncId} {caps : Array Value} {O0 okR : Nat -> Prop} (A : Option Addr) (n c : Nat) (l : List Rule) (X : Option Addr) (m d : Nat) (t : List Int) (w : World)
theorem play_many (h:Rules w A n c l) (ht:Runes w X m d t) (hr:(wrongRules l).1=0) (hx:wrongText t=0) (hm:400<(headsF l).length) :
  Calls Tryz.prog 68 #[.slice A n c,.slice X m d,.func (.func g) #[] caps] w (PlayR T O0 w l t):=by
 have e1:Ext w ((w.alloc (.cells #[.slice none 0 0,.int .i64 0,.int .i64 0] 49)).alloc (.cells #[.int .i64 0,.int .i64 0] 34)):=((Ext.refl w).alloc _).alloc _;have k0:((w.alloc (.cells #[.slice none 0 0,.int .i64 0,.int .i64 0] 49)).alloc (.cells #[.int .i64 0,.int .i64 0] 34)).cell? ⟨w.heap.size,0,none⟩=some (.slice none 0 0):=by simp
 have k1:((w.alloc (.cells #[.slice none 0 0,.int .i64 0,.int .i64 0] 49)).alloc (.cells #[.int .i64 0,.int .i64 0] 34)).cell? ⟨w.heap.size,1,none⟩=some (.int .i64 0):=by simp
 have k2:((w.alloc (.cells #[.slice none 0 0,.int .i64 0,.int .i64 0] 49)).alloc (.cells #[.int .i64 0,.int .i64 0] 34)).cell? ⟨w.heap.size,2,none⟩=some (.int .i64 0):=by simp
 have k3:((w.alloc (.cells #[.slice none 0 0,.int .i64 0,.int .i64 0] 49)).alloc (.cells #[.int .i64 0,.int .i64 0] 34)).cell? ⟨w.heap.size+1,0,none⟩=some (.int .i64 0):=by simp
 have k4:((w.alloc (.cells #[.slice none 0 0,.int .i64 0,.int .i64 0] 49)).alloc (.cells #[.int .i64 0,.int .i64 0] 34)).cell? ⟨w.heap.size+1,1,none⟩=some (.int .i64 0):=by simp
 have wa:=(Wr.new w #[.slice none 0 0,.int .i64 0,.int .i64 0] 49).ext ((Ext.refl _).alloc (.cells #[.int .i64 0,.int .i64 0] 34));have wb:=Wr.new (w.alloc (.cells #[.slice none 0 0,.int .i64 0,.int .i64 0] 49)) #[.int .i64 0,.int .i64 0] 34;rw[World.size_alloc] at wb;have HC:=hid (Wrongs_any A n c l _ (h.ext e1));have HT:=hid (fun W (e:Ext w W)=>Text_any X m d t W (ht.ext e));have HCo:=hid (fun W (e:Ext w W)=>Compile_ok A n c l W (h.ext e) hr);have hr0:=(wrongRules_zero hr).1;have HR:=hid hr0;have HX:=hid hx;have HM:=hid hm;have HV:=hid (show vmE l t=(5,0) by unfold vmE;rw[checkRun_text hr,if_neg (by simp[hx]),if_pos (by unfold compE;rw[if_pos hm];simp)]);clear hr0 hr hx hm;go_enter Tryz.func68,Tryz.ntmps68;go_wp2_with fail;generalize (w.alloc (.cells #[.slice none 0 0,.int .i64 0,.int .i64 0] 49)).alloc (.cells #[.int .i64 0,.int .i64 0] 34)=w1 at *
 go_wp2_with (first
  | (go_at_call 28;refine HC.out.mono ?_;rintro e w2 ⟨rfl,hx2⟩;rw[HR.out];have x2:=hx2.alloc (.cells #[.int .i64 0,.int .i64 0] 34))
  | (go_at_call 25;refine (HT.out _ (e1.trans x2)).mono ?_;rintro e w3 ⟨rfl,hx3⟩;rw[HX.out];have x3:=x2.trans hx3)
  | (go_at_call 99;refine (HCo.out _ (e1.trans x3)).mono ?_;rintro e w4 ⟨hpost,hx4⟩;unfold CompPost at hpost;rw[if_pos HM.out] at hpost;subst hpost;have x4:=x3.trans hx4;have v0:=x4.cell k0;have v1:=x4.cell k1;have v2:=x4.cell k2;have v3:=x4.cell k3;have v4:=x4.cell k4;have va:=(wa.ext x4).2;have vb:=(wb.ext x4).2;have n1:=wa.lt x4;have n2:=wb.lt x4))
 go_region;go_wp2;refine bodyPost_ret (v:=.tuple #[.agg #[.slice none 0 0,.int .i64 0,.int .i64 0],.agg #[.int .i64 5,.int .i64 0]]) (by simp[results,Tryz.results68,go_sem,v0,v1,v2,v3,v4,n1,n2]) rfl ?_;refine PlayR.bad (Aside.ofExt (Ext.drew (Ext.alloc ?_ _))) HV.out (by omega) rfl rfl
 repeat (first | exact e1.trans x4 | refine ext_set ?_ (by omega) _ _)
theorem play_any (TT:Told T g caps) (R:SlR (rRuleO okR) 7 okR w A n c l) (hokR:∀ b,okR b->b<w.heap.size/\¬ O0 b) (ht:Runes w X m d t) (hT:T O0 w []) :
  Calls Tryz.prog 68 #[.slice A n c,.slice X m d,.func (.func g) #[] caps] w (PlayR T O0 w l t):=by
 have h:Rules w A n c l:=R.mono (fun _ _ h=>rRuleO_top h) (fun _ _=>trivial);by_cases hr:(wrongRules l).1=0
 ·by_cases hx:wrongText t=0
  ·by_cases hm:400<(headsF l).length
   ·exact play_many A n c l X m d t w h ht hr hx hm
   ·exact play_plays A n c l X m d t w TT R hokR ht hT hr hx (by unfold compE;rw[if_neg hm])
  ·exact play_text A n c l X m d t w h ht hr hx
 ·exact play_wrong A n c l X m d t w h hr
end
theorem told_none:Told (fun O _ _=>∀ b,¬ O b) 123 #[] where
 eg:=enters Tryz.func123 (by kernel_rfl) rfl
 lt:=fun h b hb=>absurd hb (h b)
 keep:=fun h _ _=>h
 call:=fun {O W x a k} h _ _ _=>by
  have key:Calls Tryz.prog 123 #[.int .i64 a,.int .i64 k] W fun e W'=>e=.returned (.tuple #[])/\W'=W:=by
   go_enter Tryz.func123,Tryz.ntmps123;go_wp2;go_end0;exact⟨rfl,rfl⟩
  exact key.mono fun e W' h2=>⟨h2.1,O,h,by rw[h2.2];exact Aside.refl _ _,fun b hb=>.inl hb⟩
def VmPost (w:World) (l:List Rule) (t:List Int) (e:Ending) (w':World):Prop:=
 Ext w w'/\if (vmE l t).1≠0 then e=.returned (.tuple #[.agg #[.slice none 0 0,.int .i64 0,.int .i64 0],.agg #[.int .i64 (vmE l t).1,.int .i64 (vmE l t).2]])
 else ∃ (A:Option Addr) (n c s p:Nat),e=.returned (.tuple #[.agg #[.slice A n c,.int .i64 s,.int .i64 p],.agg #[.int .i64 0,.int .i64 0]])/\SlR rRune 1 (fun b=>w.heap.size<=b) w' A n c (vmV l t)
theorem Aside.toExt {w w':World} (h:Aside (fun b=>False\/w.heap.size<=b) w w'):Ext w w':=⟨h.os,h.tape,h.output,h.size,fun b hb=>h.block b hb fun hh=>hh.elim (fun f=>f) (fun f=>by omega)⟩
theorem VmPlay_any (A:Option Addr) (n c:Nat) (l:List Rule) (X:Option Addr) (m d:Nat) (t:List Int) (w:World) (h:Rules w A n c l) (ht:Runes w X m d t) :
  Calls Tryz.prog 93 #[.slice A n c,.slice X m d] w (VmPost w l t):=by
 have e1:Ext w ((w.alloc (.cells #[.slice none 0 0,.int .i64 0,.int .i64 0] 49)).alloc (.cells #[.int .i64 0,.int .i64 0] 34)):=((Ext.refl w).alloc _).alloc _;have k0:((w.alloc (.cells #[.slice none 0 0,.int .i64 0,.int .i64 0] 49)).alloc (.cells #[.int .i64 0,.int .i64 0] 34)).cell? ⟨w.heap.size,0,none⟩=some (.slice none 0 0):=by simp
 have k1:((w.alloc (.cells #[.slice none 0 0,.int .i64 0,.int .i64 0] 49)).alloc (.cells #[.int .i64 0,.int .i64 0] 34)).cell? ⟨w.heap.size,1,none⟩=some (.int .i64 0):=by simp
 have k2:((w.alloc (.cells #[.slice none 0 0,.int .i64 0,.int .i64 0] 49)).alloc (.cells #[.int .i64 0,.int .i64 0] 34)).cell? ⟨w.heap.size,2,none⟩=some (.int .i64 0):=by simp
 have k3:((w.alloc (.cells #[.slice none 0 0,.int .i64 0,.int .i64 0] 49)).alloc (.cells #[.int .i64 0,.int .i64 0] 34)).cell? ⟨w.heap.size+1,0,none⟩=some (.int .i64 0):=by simp
 have k4:((w.alloc (.cells #[.slice none 0 0,.int .i64 0,.int .i64 0] 49)).alloc (.cells #[.int .i64 0,.int .i64 0] 34)).cell? ⟨w.heap.size+1,1,none⟩=some (.int .i64 0):=by simp
 have wa:=(Wr.new w #[.slice none 0 0,.int .i64 0,.int .i64 0] 49).ext ((Ext.refl _).alloc (.cells #[.int .i64 0,.int .i64 0] 34));have wb:=Wr.new (w.alloc (.cells #[.slice none 0 0,.int .i64 0,.int .i64 0] 49)) #[.int .i64 0,.int .i64 0] 34;rw[World.size_alloc] at wb;have hs2:w.heap.size+2<=((w.alloc (.cells #[.slice none 0 0,.int .i64 0,.int .i64 0] 49)).alloc (.cells #[.int .i64 0,.int .i64 0] 34)).heap.size:=by simp
 have HP:=hid (play_any (T:=fun O _ _=>∀ b,¬ O b) (O0:=fun _=>False) A n c l X m d t _ told_none (rules_lt (h.ext e1)) (fun b hb=>⟨hb,fun f=>f⟩) (ht.ext e1) (fun b f=>f));clear h ht;go_enter Tryz.func93,Tryz.ntmps93;go_wp2_with fail;generalize (w.alloc (.cells #[.slice none 0 0,.int .i64 0,.int .i64 0] 49)).alloc (.cells #[.int .i64 0,.int .i64 0] 34)=w1 at *;by_cases hv:(vmE l t).1≠0
 ·have HV:=hid hv;go_wp2_with (go_at_call 68;refine HP.out.mono ?_;rintro e w2 ⟨hA,he⟩;rw[if_pos HV.out] at he;subst he;have hx2:=hA.toExt;have v0:=hx2.cell k0;have v1:=hx2.cell k1;have v2:=hx2.cell k2;have v3:=hx2.cell k3;have v4:=hx2.cell k4;have va:=(wa.ext hx2).2;have vb:=(wb.ext hx2).2;have n1:=wa.lt hx2;have n2:=wb.lt hx2);refine bodyPost_ret (v:=.tuple #[.agg #[.slice none 0 0,.int .i64 0,.int .i64 0],.agg #[.int .i64 (vmE l t).1,.int .i64 (vmE l t).2]]) (by simp[results,Tryz.results93,go_sem,v0,v1,v2,v3,v4,n1,n2]) rfl ?_;refine⟨?_,by rw[if_pos HV.out]⟩
  repeat (first | exact e1.trans hx2 | refine ext_set ?_ (by omega) _ _)
 ·have HV:=hid hv;clear hv;go_wp2_with (go_at_call 68;refine HP.out.mono ?_;rintro e w2 ⟨hA,he⟩;rw[if_neg HV.out] at he;obtain⟨A2,n2,c2,s,p,O,rfl,hs,_,_⟩:=he;have hx2:=hA.toExt;have v0:=hx2.cell k0;have v1:=hx2.cell k1;have v2:=hx2.cell k2;have v3:=hx2.cell k3;have v4:=hx2.cell k4;have va:=(wa.ext hx2).2;have vb:=(wb.ext hx2).2;have n1:=wa.lt hx2;have n2':=wb.lt hx2);refine bodyPost_ret (v:=.tuple #[.agg #[.slice A2 n2 c2,.int .i64 s,.int .i64 p],.agg #[.int .i64 0,.int .i64 0]]) (by simp[results,Tryz.results93,go_sem,v0,v1,v2,v3,v4,n1,n2']) rfl ?_;refine⟨?_,?_⟩
  ·repeat (first | exact e1.trans hx2 | refine ext_set ?_ (by omega) _ _)
  ·rw[if_neg HV.out];refine⟨A2,n2,c2,s,p,rfl,?_⟩;refine (hs.keep (keep_rune _) (fun b hb hl=>?_)).mono (fun _ _ h=>h) (fun b hb=>by omega);have q1:b≠w.heap.size:=by omega
   have q2:b≠w.heap.size+1:=by omega
   simp only[heap_setB q1,heap_setB q2]
end Go.Proofs.YthomjcjnalfipaaGreatDoor
