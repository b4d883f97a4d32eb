/- A part of the proofs of the Top laws. -/
import Derived.Test.YthomjcjnalfipaaGreatDoorRows
import Derived.ProofKit
import Derived.OpenShut
import Derived.ChangeOld
import Derived.Deep.Fields
import Derived.Test.YthomjcjnalfipaaGreatDoorYB17
set_option linter.all false
set_option maxRecDepth 100000
set_option maxHeartbeats 16000000
open Go.Lib (hid)
open List (getElem_toArray getElem_cons_zero getElem_cons_succ setIfInBounds_toArray set_cons_zero set_cons_succ)
namespace Go.Proofs.YthomjcjnalfipaaGreatDoor
open Go.RowKit
theorem SAt.start {w W:World} {B Tb:Nat} {A:Option Addr} {n c j:Nat} {L:List Int} {t:TypeId} (hc:CurAt W B A n c L j) (m:Mv B j w W) (hb:W.cell? ⟨Tb,0,none⟩=some (.pointer (some ⟨B,0,none⟩))) (h1:w.heap.size<=Tb) (h2:Tb<W.heap.size) (h3:B<w.heap.size) :
  SAt w B Tb W.heap.size A n c L j none 0 0 [] (W.alloc (.cells #[.slice none 0 0] t)):=by
 have e:=(Ext.refl W).alloc (.cells #[.slice none 0 0] t);refine⟨hc.ext e,m.ext e,e.cell hb,cell_new _ _ _ 0 _ rfl,SlR.nil _ _ _ _ _ _ (by unfold maxLen;omega),fun i=>by simp,by simp;omega,⟨h1,by have:=m.size;omega,by omega,h3⟩,fun i v hv=>?_⟩
 match i with
 | 0=>omega
 | i+1=>
  have hb:(W.alloc (.cells #[.slice none 0 0] t)).heap[W.heap.size]? =some (.cells #[.slice none 0 0] t):=heap_alloc_new W _;unfold World.cell? at hv;dsimp only at hv;rw[hb] at hv;cases hv
theorem setC_any:∀ (lv:Nat) (d:Int),d+lv=21->1<=d->∀ (B:Nat) (A:Option Addr) (n c:Nat) (L:List Int) (k:Nat) (w:World) (h:CurAt w B A n c L k),
  Calls Tryz.prog 76 #[.pointer (some ⟨B,0,none⟩),.int .i64 d] w fun e w'=>PRet w B (setF L lv k) (rS w.heap.size) e w':=by
 intro lv
 induction lv with
 | zero=>
  intro d hd _ B A n c L k w h;have hd:d=21:=by omega
  subst hd;have H:=hid h;have e1:Ext w (w.alloc (.cells #[.pointer (some ⟨B,0,none⟩)] 143)):=(Ext.refl w).alloc _;have CP:=hid (fun W (e:Ext w W)=>Peek_any B A n c L k W (h.ext e));have CN:=hid (fun W (e:Ext w W)=>Need_any B A n c L k 91 W (h.ext e) (by omega));obtain⟨V,hV⟩:∃ V,V=setF L 0 k:=⟨_,rfl⟩
  rw[<- hV];unfold setF at hV;have b0:(w.alloc (.cells #[.pointer (some ⟨B,0,none⟩)] 143)).cell? ⟨w.heap.size,0,none⟩=some (.pointer (some ⟨B,0,none⟩)):=cell_new _ _ _ 0 _ rfl;by_cases h91:lookF L k=91
  ·rw[if_pos h91] at hV;subst hV;rw[h91] at CP;have CF:=hid (fun W=>Fail_any 4 k W);clear h91 h CN;go_enter Tryz.func76,Tryz.ntmps76
   go_wp2_with (first
    | (go_at_call 46;((with_reducible refine (CP.out _ e1).mono ?_);rintro e w1 ⟨rfl,x1⟩;have X1:=hid (e1.trans x1);have hc1:=H.out.ext X1.out;have k1:=hc1.c1;have kl:=hc1.lt;have b1:=x1.cell b0;clear x1 hc1))
    | (go_at_call 44;((with_reducible refine (CF.out _).mono ?_);rintro e w4 ⟨rfl,rfl⟩)))
   exact⟨rfl,rfl,_,Mv.of H.out X1.out⟩
  ·rw[if_neg h91] at hV;subst hV;have hN:needF L 91 k=.fail 2 k:=by unfold needF;rw[if_neg h91]
   have n91:(lookF L k==91)=false:=by simpa using h91
   rw[hN] at CN;clear h91 h hN;generalize lookF L k=r at CP n91;go_enter Tryz.func76,Tryz.ntmps76
   go_wp2_with (first
    | (go_at_call 46;((with_reducible refine (CP.out _ e1).mono ?_);rintro e w1 ⟨rfl,x1⟩;have X1:=hid (e1.trans x1);have b1:=x1.cell b0;clear x1))
    | (go_at_call 48;((with_reducible refine (CN.out _ X1.out).mono ?_);rintro e w2 ⟨rfl,q,m2⟩;have M2:=hid ((Mv.of H.out X1.out).trans H.out m2);clear m2)))
   exact⟨rfl,rfl,_,M2.out⟩
 | succ lv IH0=>
  intro d hd hd1 B A n c L k w h;have hd20:¬ (20:Int)<d:=by omega
  have wd:IntKind.i64.wrap (d+1)=d+1:=IntWalk.i64_in _ (by omega);have IH:=IH0 (d+1) (by omega) (by omega);clear hd hd1 IH0;have H:=hid h;have HL:=hid h.row.len;have hnb:=h.nb;have hbl:=h.lt;have e1:Ext w (w.alloc (.cells #[.pointer (some ⟨B,0,none⟩)] 143)):=(Ext.refl w).alloc _;have bl0:w.heap.size<(w.alloc (.cells #[.pointer (some ⟨B,0,none⟩)] 143)).heap.size:=by simp
  have CN:=hid (fun W (e:Ext w W)=>Need_any B A n c L k 91 W (h.ext e) (by omega));have b0:(w.alloc (.cells #[.pointer (some ⟨B,0,none⟩)] 143)).cell? ⟨w.heap.size,0,none⟩=some (.pointer (some ⟨B,0,none⟩)):=cell_new _ _ _ 0 _ rfl;obtain⟨S,hS⟩:∃ S,S=setF L lv:=⟨_,rfl⟩
  have HS:=hid hS;have HSA:Hid (∀ q,Adv L q 1 (S q)):=hid (by rw[hS];exact setF_adv lv);obtain⟨V,hV⟩:∃ V,V=setF L (lv+1) k:=⟨_,rfl⟩
  rw[<- hV];unfold setF at hV;rw[<- hS] at hV;clear hS;by_cases h91:lookF L k=91
  ·have hk1:k<n:=by have:=look_lt' h91 (by omega);have:=HL.out;omega
   have hN:needF L 91 k=.ok () (k+1):=by unfold needF;rw[if_pos h91]
   rw[hN] at CN;rw[if_neg (by simp[h91])] at hV;have CP1:=hid (fun W (hW:CurAt W B A n c L (k+1))=>Peek_any B A n c L (k+1) W hW);have wk:IntKind.i64.wrap ((k:Int)+1+1)=(k:Int)+1+1:=IntWalk.i64_in _ (by omega);clear hN;by_cases h94:lookF L (k+1)=94
   ·have hk2:k+1<n:=by have:=look_lt' h94 (by omega);have:=HL.out;omega
    rw[if_pos h94] at hV;rw[h94] at CP1;have HJ0:skipF L (k+2)<=n:=by have:=skipF_le (L:=L) (k:=k+2) (by have:=HL.out;omega);have:=HL.out;omega
    obtain⟨T,hT0⟩:∃ T,opsF L S (L.length+1) [] (skipF L (k+2))=T:=⟨_,rfl⟩
    rw[hT0] at hV;have HT0:=hid hT0;have HV:=hid hV;have HF0:Hid (n<L.length+1+skipF L (k+2)):=hid (by have:=HL.out;omega);have CS0:=hid (fun W (hW:CurAt W B A n c L (k+2))=>Skip_any B A n c L (k+2) W hW);clear hV hT0 h91 h h94;go_enter Tryz.func76,Tryz.ntmps76
    go_wp2_with (first
     | (go_at_call 48;((with_reducible refine (CN.out _ e1).mono ?_);rintro e w1 ⟨v,rfl,rfl,m1⟩;have M1:=hid ((Mv.of H.out e1).trans H.out m1);have HC1:=hid (H.out.mv M1.out (by omega));have b1:=m1.agree.cell (a:=⟨w.heap.size,0,none⟩) (by show w.heap.size≠B;omega) b0;have bl:=Nat.lt_of_lt_of_le bl0 m1.size;clear m1))
     | (go_at_call 46;((with_reducible refine (CP1.out _ HC1.out).mono ?_);rintro e w2 ⟨rfl,x2⟩;have HC2:=hid (HC1.out.ext x2);have M2:=hid (M1.out.ext x2);have b2:=x2.cell b1;have bl2:=Nat.lt_of_lt_of_le bl x2.size;have k1:=HC2.out.c1;have kz:=HC2.out.fz;have kl:=HC2.out.lt;have HC2s:=hid (HC2.out.setX (x:=(k:Int)+1+1) (j:=k+2) (by omega) (by omega));have M2s:=hid (M2.out.setX H.out (x:=(k:Int)+1+1) (i:=k+2) (by omega));have b2s:=(agree_set B 1 w2 (.int .i64 ((k:Int)+1+1))).cell (a:=⟨w.heap.size,0,none⟩) (by show w.heap.size≠B;omega) b2;have bl2s:w.heap.size<(w2.setCell ⟨B,1,none⟩ (.int .i64 ((k:Int)+1+1))).heap.size:=(by rw[size_set];exact bl2);have STa:=hid (SAt.start (t:=23) HC2s.out M2s.out b2s (Nat.le_refl _) bl2s H.out.lt.1);rw[size_set] at STa;have ta:=STa.out.box;clear x2))
     | (go_at_call 74;((with_reducible refine (CS0.out _ STa.out.cur).mono ?_);rintro e w3 ⟨rfl,m3⟩;have ST0:=hid (STa.out.go H.out m3 HJ0);clear m3)))
    generalize hTb:w.heap.size=Tb at *;generalize hQb:w2.heap.size=Qb at *;have hTB:Tb≠B:=by omega
    clear hTb hQb STa ta;go_loopw [] (fun wr=>∃ (f j:Nat) (A':Option Addr) (n' c':Nat) (s:List Sp),Hid (n<f+j)/\j<=n/\Hid (opsF L S f s j=T)/\Hid (SAt w B Tb Qb A n c L j A' n' c' s wr)) (fun wr=>n-atOf B wr);case atStart=>exact⟨L.length+1,_,_,_,_,[],HF0,HJ0,HT0,ST0⟩
    case round=>
     clear ST0 HF0 HT0 HJ0;obtain⟨f',j,A',n',c',s,HFJ',hj,HT,ST⟩:=hrel;obtain⟨f,rfl⟩:∃ f,f'=f+1:=⟨f'-1,by have:=HFJ'.out;omega⟩
     have HFJ:=hid (show n<f+(j+1) by have:=HFJ'.out;omega);have hT:=HT.out;unfold opsF at hT;have CP:=hid (fun W (e:Ext wr W)=>Peek_any B A n c L j W (ST.out.cur.ext e));have HA:=hid ST.out.cur.at_;have wj:IntKind.i64.wrap ((j:Int)+1)=(j:Int)+1:=IntWalk.i64_in _ (by have:=ST.out.cur.nb;omega);have t0:=ST.out.box;have q0:=ST.out.val;have k1:=ST.out.cur.c1;have kz:=ST.out.cur.fz;have kl:=ST.out.cur.lt;clear HFJ' HT;by_cases h93:lookF L j=93
     ·have hj1:j<n:=by have:=look_lt' h93 (by omega);have:=HL.out;omega
      rw[if_pos h93] at hT;rw[h93] at CP;clear h93;obtain⟨⟨so,er⟩,hop⟩:∃ o,notO s=o:=⟨_,rfl⟩
      have hV:V=keepF (so,er) (j+1):=by rw[HV.out,<- hT];show keepF (notO s) (j+1)=_;rw[hop]
      unfold keepF at hV;dsimp only at hV;by_cases her:er=0
      ·rw[if_neg (by simp[her])] at hV;subst hV her;clear hT
       go_wp2_with (first
        | (go_at_call 46;((with_reducible refine (CP.out _ (Ext.refl _)).mono ?_);rintro e w1 ⟨rfl,x1⟩;have ST1:=hid (ST.out.ext x1);have ST1s:=hid (ST1.out.go H.out ((Mv.refl ST1.out.cur).setX ST1.out.cur (x:=(j:Int)+1) (i:=j+1) (by omega)) (by omega));clear t0 q0 k1 kz kl;have t0:=ST1.out.box;have q0:=ST1.out.val;have k1:=ST1.out.cur.c1;have kz:=ST1.out.cur.fz;have kl:=ST1.out.cur.lt;have q1:=ST1s.out.val;clear x1))
        | (go_at_call 116;((refine (NotF_any A' n' c' s _ (ST1s.out.sp.mono (fun _ _ h=>h) (fun _ _=>trivial))).mono ?_);rintro e w2 ⟨hso,x2⟩;change SetO _ (notO s) w2 e at hso;rw[hop] at hso;obtain⟨A2,c2,rfl,s2⟩:=hso;have ST2:=hid (ST1s.out.ext x2);have S2:=hid (ST1s.out.fresh s2);clear s2 x2))
        | (go_at_call 110;((refine (keep_ok ST2.out S2.out).mono ?_);rintro e w7 ⟨rfl,st7⟩;have ST7:=hid st7;clear st7;have q7:=ST7.out.val)))
       go_ret;exact⟨_,rfl,⟨_,_,_,rfl,ST7.out.sp.mono (fun _ _ h=>h) (fun _ h=>h.1)⟩,ST7.out.mv⟩
      ·rw[if_pos her] at hV;subst hV;clear hT
       go_wp2_with (first
        | (go_at_call 46;((with_reducible refine (CP.out _ (Ext.refl _)).mono ?_);rintro e w1 ⟨rfl,x1⟩;have ST1:=hid (ST.out.ext x1);have ST1s:=hid (ST1.out.go H.out ((Mv.refl ST1.out.cur).setX ST1.out.cur (x:=(j:Int)+1) (i:=j+1) (by omega)) (by omega));clear t0 q0 k1 kz kl;have t0:=ST1.out.box;have q0:=ST1.out.val;have k1:=ST1.out.cur.c1;have kz:=ST1.out.cur.fz;have kl:=ST1.out.cur.lt;have q1:=ST1s.out.val;clear x1))
        | (go_at_call 116;((refine (NotF_any A' n' c' s _ (ST1s.out.sp.mono (fun _ _ h=>h) (fun _ _=>trivial))).mono ?_);rintro e w2 ⟨hso,x2⟩;change SetO _ (notO s) w2 e at hso;rw[hop] at hso;obtain⟨A2,c2,rfl,s2⟩:=hso;have ST2:=hid (ST1s.out.ext x2);have S2:=hid (ST1s.out.fresh s2);clear s2 x2))
        | (go_at_call 110;((refine (keep_bad ST2.out er her _).mono ?_);rintro e w7 ⟨rfl,rfl⟩)))
       exact⟨rfl,rfl,_,ST2.out.mv⟩
     ·rw[if_neg h93] at hT;have n93:(lookF L j != 93)=true:=by simpa using h93
      obtain⟨O,hO⟩:∃ O,opF L S s j=O:=⟨_,rfl⟩
      rw[hO] at hT;unfold opF at hO;clear h93;by_cases h91:lookF L j=91
      ·have hj1:j<n:=by have:=look_lt' h91 (by omega);have:=HL.out;omega
       rw[h91] at CP n93;have CL:=hid (fun W (e:Ext wr W)=>show Calls Tryz.prog 75 #[.pointer (some ⟨B,0,none⟩),.int .i64 1] W fun e w'=>e=.returned (.int .i32 (lookF L (j+1)))/\Ext W w' from by simpa using Look_any B A n c L j 1 W (ST.out.cur.ext e) (by omega));by_cases h58:lookF L (j+1)=58
       ·have hj2:j+1<n:=by have:=look_lt' h58 (by omega);have:=HL.out;omega
        rw[if_pos ⟨h91,h58⟩] at hO;subst hO;rw[h58] at CL;have CX:=hid (fun W (hW:CurAt W B A n c L j)=>clsC_any B A n c L j W hW (by omega));clear h91 h58;obtain⟨X,hX⟩:∃ X,X=classF L j:=⟨_,rfl⟩
        rw[<- hX] at hT CX;have HX:=hid hX;have HO:=hid hT;clear hX hT
        go_wp2_with (first
         | (go_at_call 46;((with_reducible refine (CP.out _ (Ext.refl _)).mono ?_);rintro e w1 ⟨rfl,x1⟩;have X1:=hid x1;have ST1:=hid (ST.out.ext x1);clear t0 q0 k1 kz kl;have t0:=ST1.out.box;have q0:=ST1.out.val;have k1:=ST1.out.cur.c1;have kz:=ST1.out.cur.fz;have kl:=ST1.out.cur.lt;clear x1))
         | (go_at_call 46;((with_reducible refine (CP.out _ X1.out).mono ?_);rintro e w2 ⟨rfl,x2⟩;have X2:=hid (X1.out.trans x2);have ST2:=hid (ST1.out.ext x2);clear t0 q0 k1 kz kl;have t0:=ST2.out.box;have q0:=ST2.out.val;have k1:=ST2.out.cur.c1;have kz:=ST2.out.cur.fz;have kl:=ST2.out.cur.lt;clear x2))
         | (go_at_call 75;((with_reducible refine (CL.out _ X2.out).mono ?_);rintro e w3 ⟨rfl,x3⟩;have ST3:=hid (ST2.out.ext x3);clear t0 q0 k1 kz kl;have t0:=ST3.out.box;have q0:=ST3.out.val;have k1:=ST3.out.cur.c1;have kz:=ST3.out.cur.fz;have kl:=ST3.out.cur.lt;clear x3)))
        have ST4:=hid (ST3.out.ext (Ext.refl _).drew);refine wp_region_E (fun w'=>w'.cell? ⟨Qb,0,none⟩=some (.slice A' n' c')/\w'.cell? ⟨Tb,0,none⟩=some (.pointer (some ⟨B,0,none⟩))) 7 (by kernel_rfl) ?_;have hS:(fun w':World=>w'.cell? ⟨Qb,0,none⟩=some (.slice A' n' c')/\w'.cell? ⟨Tb,0,none⟩=some (.pointer (some ⟨B,0,none⟩))) _:=⟨ST4.out.val,ST4.out.box⟩
        clear t0 q0 k1 kz kl;refine wpE_take [] (i:=0) (v:=?vk1n0) rfl (by kernel_rfl) (by kernel_rfl) (by kernel_rfl) (by kernel_rfl) (by kernel_rfl) (fun _ _ _ h=>h) hS (Or.inl ⟨by rfl,?hyk1n0⟩) ?restk1n0
        case hyk1n0=>
         intro w' hSw;obtain⟨hs1,hs2⟩:=hSw;go_simp;with_reducible rfl
        simp only[Act.put,getElem_toArray,getElem_cons_zero,getElem_cons_succ,setIfInBounds_toArray,set_cons_zero,set_cons_succ];refine wpE_take [5,4] (i:=1) (v:=?vk1n1) rfl (by kernel_rfl) (by kernel_rfl) (by kernel_rfl) (by kernel_rfl) (by kernel_rfl) (fun _ _ _ h=>h) hS (Or.inl ⟨by rfl,?hyk1n1⟩) ?restk1n1
        case hyk1n1=>
         intro w' hSw;obtain⟨hs1,hs2⟩:=hSw;go_simp;with_reducible rfl
        simp only[Act.put,getElem_toArray,getElem_cons_zero,getElem_cons_succ,setIfInBounds_toArray,set_cons_zero,set_cons_succ];refine wpE_take [5,4,3] (i:=2) (v:=?vk1n2) rfl (by kernel_rfl) (by kernel_rfl) (by kernel_rfl) (by kernel_rfl) (by kernel_rfl) (fun _ _ _ h=>h) hS (Or.inl ⟨by rfl,?hyk1n2⟩) ?restk1n2
        case hyk1n2=>
         intro w' hSw;obtain⟨hs1,hs2⟩:=hSw;go_simp;with_reducible rfl
        simp only[Act.put,getElem_toArray,getElem_cons_zero,getElem_cons_succ,setIfInBounds_toArray,set_cons_zero,set_cons_succ];refine wpE_one (i:=3) rfl (by kernel_rfl) (fun K1 hK1=>?_);go_simp;go_at_call 112;refine (CX.out _ ST4.out.cur).mono ?_;intro e w5 h5;have hT:=HO.out
        cases X with
        | fail er q=>
         simp only[PR.bind] at hT;have hV:V=.fail er q:=by rw[HV.out,<- hT];try rfl
         subst hV;obtain⟨rfl,q,m5⟩:=h5;exact⟨rfl,rfl,_,(ST4.out.mv.trans H.out m5)⟩
        | ok s1' k1'=>
         obtain⟨v,rfl,⟨A1,n1,c1,rfl,s1⟩,m5⟩:=h5;have hadv:=classF_adv (L:=L) (k:=j);have HK1:k1'<=n:=by have:=(hadv _ _ HX.out.symm).2;have:=HL.out;omega
         have HP:Hid (j+1<=k1'):=hid (by have:=(hadv _ _ HX.out.symm).1;omega);have HSK1:skipF L k1'<=n:=by have:=skipF_le (L:=L) (k:=k1') (by have:=HL.out;omega);have:=HL.out;omega
         have HP:=hid (Nat.le_trans HP.out (skipF_ge (L:=L) (k:=k1')));have CS1:=hid (fun W (hW:CurAt W B A n c L k1')=>Skip_any B A n c L k1' W hW);simp only[PR.bind] at hT;obtain⟨⟨so,er⟩,hop⟩:∃ o,unionO s s1'=o:=⟨_,rfl⟩
         rw[hop] at hT;unfold keepF at hT;dsimp only at hT;have HO:=hid hT;clear hT hadv;have ST5:=hid (ST4.out.go H.out m5 HK1);have S1:=hid (ST4.out.fresh s1);clear s1 m5;dsimp only;refine hK1.out _ _ (.inr ⟨ST5.out.val,ST5.out.box⟩) ?_
         try simp only[Act.put,getElem_toArray,getElem_cons_zero,getElem_cons_succ,setIfInBounds_toArray,set_cons_zero,set_cons_succ]
         refine wpE_one (i:=4) rfl (by kernel_rfl) (fun K2 hK2=>?_);go_simp;go_at_call 111;refine (UnionF_any A' n' c' s A1 n1 c1 s1' _ (ST5.out.sp.mono (fun _ _ h=>h) (fun _ _=>trivial)) (S1.out.mono (fun _ _ h=>h) (fun _ _=>trivial))).mono ?_;rintro e w6 ⟨hso,x6⟩;change SetO _ (unionO s s1') w6 e at hso;rw[hop] at hso;obtain⟨A2,c2,rfl,s2⟩:=hso;have ST6:=hid (ST5.out.ext x6);have S2:=hid (ST5.out.fresh s2);clear s2 x6;dsimp only;refine hK2.out _ _ (.inr ⟨ST6.out.val,ST6.out.box⟩) ?_
         try simp only[Act.put,getElem_toArray,getElem_cons_zero,getElem_cons_succ,setIfInBounds_toArray,set_cons_zero,set_cons_succ]
         have hS6:(fun w':World=>w'.cell? ⟨Qb,0,none⟩=some (.slice A' n' c')/\w'.cell? ⟨Tb,0,none⟩=some (.pointer (some ⟨B,0,none⟩))) w6:=⟨ST6.out.val,ST6.out.box⟩
         refine wpE_take [] (i:=5) (v:=?vk1ne5) rfl (by kernel_rfl) (by kernel_rfl) (by kernel_rfl) (by kernel_rfl) (by kernel_rfl) (fun _ _ _ h=>h) hS6 (Or.inl ⟨by rfl,?hyk1ne5⟩) ?restk1ne5
         case hyk1ne5=>
          intro w' hSw;obtain⟨hs1,hs2⟩:=hSw;go_simp;with_reducible rfl
         simp only[Act.put,getElem_toArray,getElem_cons_zero,getElem_cons_succ,setIfInBounds_toArray,set_cons_zero,set_cons_succ];refine wpE_take [] (i:=6) (v:=?vk1ne6) rfl (by kernel_rfl) (by kernel_rfl) (by kernel_rfl) (by kernel_rfl) (by kernel_rfl) (fun _ _ _ h=>h) hS6 (Or.inl ⟨by rfl,?hyk1ne6⟩) ?restk1ne6
         case hyk1ne6=>
          intro w' hSw;obtain⟨hs1,hs2⟩:=hSw;go_simp;with_reducible rfl
         simp only[Act.put,getElem_toArray,getElem_cons_zero,getElem_cons_succ,setIfInBounds_toArray,set_cons_zero,set_cons_succ];refine wpE_one (i:=7) rfl (by kernel_rfl) (fun K3 hK3=>?_);go_simp;go_at_call 110;have hT:=HO.out;by_cases her:er=0
         ·rw[if_neg (by simp[her])] at hT;simp only[PR.bind] at hT;have HN:=hid hT;have HF:Hid (n<f+skipF L k1'):=hid (by have:=HFJ.out;have:=HP.out;omega);subst her;clear hT hop;refine (keep_ok ST6.out S2.out).mono ?_;rintro e w7 ⟨rfl,st7⟩;have ST7:=hid st7;clear st7 hS hS6;dsimp only;refine hK3.out _ _ (.inl rfl) ?_;refine wpE_done (by kernel_rfl) ?_ _
          try simp only[Act.put,getElem_toArray,getElem_cons_zero,getElem_cons_succ,setIfInBounds_toArray,set_cons_zero,set_cons_succ]
          have t0:=ST7.out.box;have q0:=ST7.out.val;have k1:=ST7.out.cur.c1;have kz:=ST7.out.cur.fz;have kl:=ST7.out.cur.lt
          go_wp2_with (first
           | (go_at_call 74;((with_reducible refine (CS1.out _ ST7.out.cur).mono ?_);rintro e w8 ⟨rfl,m8⟩;have ST8:=hid (ST7.out.go H.out m8 HSK1);have HA8:=hid ST8.out.cur.at_;clear m8)))
          go_roundw;case rel=>exact⟨f,skipF L k1',_,_,_,so,HF,HSK1,HN,ST8⟩
          case measure=>have e1:=HA.out;have e2:=HA8.out;have:=HP.out;rw[e1,e2];omega
         ·rw[if_pos her] at hT;simp only[PR.bind] at hT;have hV:V=.fail er k1':=by rw[HV.out,<- hT];try rfl
          subst hV;refine (keep_bad ST6.out er her _).mono ?_;rintro e w7 ⟨rfl,rfl⟩;exact⟨rfl,rfl,_,ST6.out.mv⟩
       ·rw[if_neg (by simp[h58]),if_pos h91] at hO;subst hO;have n58:(lookF L (j+1)==58)=false:=by simpa using h58
        have CX:=hid (fun W (hW:CurAt W B A n c L j)=>IH B A n c L j W hW);rw[<- HS.out] at CX;generalize lookF L (j+1)=r2 at CL n58;clear h91 h58;obtain⟨X,hX⟩:∃ X,X=S j:=⟨_,rfl⟩
        rw[<- hX] at hT CX;have HX:=hid hX;have HO:=hid hT;clear hX hT
        go_wp2_with (first
         | (go_at_call 46;((with_reducible refine (CP.out _ (Ext.refl _)).mono ?_);rintro e w1 ⟨rfl,x1⟩;have X1:=hid x1;have ST1:=hid (ST.out.ext x1);clear t0 q0 k1 kz kl;have t0:=ST1.out.box;have q0:=ST1.out.val;have k1:=ST1.out.cur.c1;have kz:=ST1.out.cur.fz;have kl:=ST1.out.cur.lt;clear x1))
         | (go_at_call 46;((with_reducible refine (CP.out _ X1.out).mono ?_);rintro e w2 ⟨rfl,x2⟩;have X2:=hid (X1.out.trans x2);have ST2:=hid (ST1.out.ext x2);clear t0 q0 k1 kz kl;have t0:=ST2.out.box;have q0:=ST2.out.val;have k1:=ST2.out.cur.c1;have kz:=ST2.out.cur.fz;have kl:=ST2.out.cur.lt;clear x2))
         | (go_at_call 75;((with_reducible refine (CL.out _ X2.out).mono ?_);rintro e w3 ⟨rfl,x3⟩;have ST3:=hid (ST2.out.ext x3);clear t0 q0 k1 kz kl;have t0:=ST3.out.box;have q0:=ST3.out.val;have k1:=ST3.out.cur.c1;have kz:=ST3.out.cur.fz;have kl:=ST3.out.cur.lt;clear x3)))
        have ST4:=hid (ST3.out.ext (Ext.refl _).drew);refine wp_region_E (fun w'=>w'.cell? ⟨Qb,0,none⟩=some (.slice A' n' c')/\w'.cell? ⟨Tb,0,none⟩=some (.pointer (some ⟨B,0,none⟩))) 9 (by kernel_rfl) ?_;have hS:(fun w':World=>w'.cell? ⟨Qb,0,none⟩=some (.slice A' n' c')/\w'.cell? ⟨Tb,0,none⟩=some (.pointer (some ⟨B,0,none⟩))) _:=⟨ST4.out.val,ST4.out.box⟩
        clear t0 q0 k1 kz kl;refine wpE_take [] (i:=0) (v:=?vk2n0) rfl (by kernel_rfl) (by kernel_rfl) (by kernel_rfl) (by kernel_rfl) (by kernel_rfl) (fun _ _ _ h=>h) hS (Or.inl ⟨by rfl,?hyk2n0⟩) ?restk2n0
        case hyk2n0=>
         intro w' hSw;obtain⟨hs1,hs2⟩:=hSw;go_simp;with_reducible rfl
        simp only[Act.put,getElem_toArray,getElem_cons_zero,getElem_cons_succ,setIfInBounds_toArray,set_cons_zero,set_cons_succ];refine wpE_take [7,6] (i:=1) (v:=?vk2n1) rfl (by kernel_rfl) (by kernel_rfl) (by kernel_rfl) (by kernel_rfl) (by kernel_rfl) (fun _ _ _ h=>h) hS (Or.inl ⟨by rfl,?hyk2n1⟩) ?restk2n1
        case hyk2n1=>
         intro w' hSw;obtain⟨hs1,hs2⟩:=hSw;go_simp;with_reducible rfl
        simp only[Act.put,getElem_toArray,getElem_cons_zero,getElem_cons_succ,setIfInBounds_toArray,set_cons_zero,set_cons_succ];refine wpE_take [7,6,5] (i:=2) (v:=?vk2n2) rfl (by kernel_rfl) (by kernel_rfl) (by kernel_rfl) (by kernel_rfl) (by kernel_rfl) (fun _ _ _ h=>h) hS (Or.inl ⟨by rfl,?hyk2n2⟩) ?restk2n2
        case hyk2n2=>
         intro w' hSw;obtain⟨hs1,hs2⟩:=hSw;go_simp;with_reducible rfl
        simp only[Act.put,getElem_toArray,getElem_cons_zero,getElem_cons_succ,setIfInBounds_toArray,set_cons_zero,set_cons_succ];refine wpE_take [7,6,5,4] (i:=3) (v:=?vk2n3) rfl (by kernel_rfl) (by kernel_rfl) (by kernel_rfl) (by kernel_rfl) (by kernel_rfl) (fun _ _ _ h=>h) hS (Or.inl ⟨by rfl,?hyk2n3⟩) ?restk2n3
        case hyk2n3=>
         intro w' hSw;obtain⟨hs1,hs2⟩:=hSw;go_simp;with_reducible rfl
        simp only[Act.put,getElem_toArray,getElem_cons_zero,getElem_cons_succ,setIfInBounds_toArray,set_cons_zero,set_cons_succ];refine wpE_take [7,6,5] (i:=4) (v:=?vk2n4) rfl (by kernel_rfl) (by kernel_rfl) (by kernel_rfl) (by kernel_rfl) (by kernel_rfl) (fun _ _ _ h=>h) hS (Or.inl ⟨by rfl,?hyk2n4⟩) ?restk2n4
        case hyk2n4=>
         intro w' hSw;obtain⟨hs1,hs2⟩:=hSw;go_simp;with_reducible rfl
        simp only[Act.put,getElem_toArray,getElem_cons_zero,getElem_cons_succ,setIfInBounds_toArray,set_cons_zero,set_cons_succ];refine wpE_one (i:=5) rfl (by kernel_rfl) (fun K1 hK1=>?_);go_simp;go_at_call 76;refine (CX.out _ ST4.out.cur).mono ?_;intro e w5 h5;have hT:=HO.out
        cases X with
        | fail er q=>
         simp only[PR.bind] at hT;have hV:V=.fail er q:=by rw[HV.out,<- hT];try rfl
         subst hV;obtain⟨rfl,q,m5⟩:=h5;exact⟨rfl,rfl,_,(ST4.out.mv.trans H.out m5)⟩
        | ok s1' k1'=>
         obtain⟨v,rfl,⟨A1,n1,c1,rfl,s1⟩,m5⟩:=h5;have hadv:=HSA.out j;have HK1:k1'<=n:=by have:=(hadv _ _ HX.out.symm).2;have:=HL.out;omega
         have HP:Hid (j+1<=k1'):=hid (by have:=(hadv _ _ HX.out.symm).1;omega);have HSK1:skipF L k1'<=n:=by have:=skipF_le (L:=L) (k:=k1') (by have:=HL.out;omega);have:=HL.out;omega
         have HP:=hid (Nat.le_trans HP.out (skipF_ge (L:=L) (k:=k1')));have CS1:=hid (fun W (hW:CurAt W B A n c L k1')=>Skip_any B A n c L k1' W hW);simp only[PR.bind] at hT;obtain⟨⟨so,er⟩,hop⟩:∃ o,unionO s s1'=o:=⟨_,rfl⟩
         rw[hop] at hT;unfold keepF at hT;dsimp only at hT;have HO:=hid hT;clear hT hadv;have ST5:=hid (ST4.out.go H.out m5 HK1);have S1:=hid (ST4.out.fresh s1);clear s1 m5;dsimp only;refine hK1.out _ _ (.inr ⟨ST5.out.val,ST5.out.box⟩) ?_
         try simp only[Act.put,getElem_toArray,getElem_cons_zero,getElem_cons_succ,setIfInBounds_toArray,set_cons_zero,set_cons_succ]
         refine wpE_one (i:=6) rfl (by kernel_rfl) (fun K2 hK2=>?_);go_simp;go_at_call 111;refine (UnionF_any A' n' c' s A1 n1 c1 s1' _ (ST5.out.sp.mono (fun _ _ h=>h) (fun _ _=>trivial)) (S1.out.mono (fun _ _ h=>h) (fun _ _=>trivial))).mono ?_;rintro e w6 ⟨hso,x6⟩;change SetO _ (unionO s s1') w6 e at hso;rw[hop] at hso;obtain⟨A2,c2,rfl,s2⟩:=hso;have ST6:=hid (ST5.out.ext x6);have S2:=hid (ST5.out.fresh s2);clear s2 x6;dsimp only;refine hK2.out _ _ (.inr ⟨ST6.out.val,ST6.out.box⟩) ?_
         try simp only[Act.put,getElem_toArray,getElem_cons_zero,getElem_cons_succ,setIfInBounds_toArray,set_cons_zero,set_cons_succ]
         have hS6:(fun w':World=>w'.cell? ⟨Qb,0,none⟩=some (.slice A' n' c')/\w'.cell? ⟨Tb,0,none⟩=some (.pointer (some ⟨B,0,none⟩))) w6:=⟨ST6.out.val,ST6.out.box⟩
         refine wpE_take [] (i:=7) (v:=?vk2ne7) rfl (by kernel_rfl) (by kernel_rfl) (by kernel_rfl) (by kernel_rfl) (by kernel_rfl) (fun _ _ _ h=>h) hS6 (Or.inl ⟨by rfl,?hyk2ne7⟩) ?restk2ne7
         case hyk2ne7=>
          intro w' hSw;obtain⟨hs1,hs2⟩:=hSw;go_simp;with_reducible rfl
         simp only[Act.put,getElem_toArray,getElem_cons_zero,getElem_cons_succ,setIfInBounds_toArray,set_cons_zero,set_cons_succ];refine wpE_take [] (i:=8) (v:=?vk2ne8) rfl (by kernel_rfl) (by kernel_rfl) (by kernel_rfl) (by kernel_rfl) (by kernel_rfl) (fun _ _ _ h=>h) hS6 (Or.inl ⟨by rfl,?hyk2ne8⟩) ?restk2ne8
         case hyk2ne8=>
          intro w' hSw;obtain⟨hs1,hs2⟩:=hSw;go_simp;with_reducible rfl
         simp only[Act.put,getElem_toArray,getElem_cons_zero,getElem_cons_succ,setIfInBounds_toArray,set_cons_zero,set_cons_succ];refine wpE_one (i:=9) rfl (by kernel_rfl) (fun K3 hK3=>?_);go_simp;go_at_call 110;have hT:=HO.out;by_cases her:er=0
         ·rw[if_neg (by simp[her])] at hT;simp only[PR.bind] at hT;have HN:=hid hT;have HF:Hid (n<f+skipF L k1'):=hid (by have:=HFJ.out;have:=HP.out;omega);subst her;clear hT hop;refine (keep_ok ST6.out S2.out).mono ?_;rintro e w7 ⟨rfl,st7⟩;have ST7:=hid st7;clear st7 hS hS6;dsimp only;refine hK3.out _ _ (.inl rfl) ?_;refine wpE_done (by kernel_rfl) ?_ _
          try simp only[Act.put,getElem_toArray,getElem_cons_zero,getElem_cons_succ,setIfInBounds_toArray,set_cons_zero,set_cons_succ]
          have t0:=ST7.out.box;have q0:=ST7.out.val;have k1:=ST7.out.cur.c1;have kz:=ST7.out.cur.fz;have kl:=ST7.out.cur.lt
          go_wp2_with (first
           | (go_at_call 74;((with_reducible refine (CS1.out _ ST7.out.cur).mono ?_);rintro e w8 ⟨rfl,m8⟩;have ST8:=hid (ST7.out.go H.out m8 HSK1);have HA8:=hid ST8.out.cur.at_;clear m8)))
          go_roundw;case rel=>exact⟨f,skipF L k1',_,_,_,so,HF,HSK1,HN,ST8⟩
          case measure=>have e1:=HA.out;have e2:=HA8.out;have:=HP.out;rw[e1,e2];omega
         ·rw[if_pos her] at hT;simp only[PR.bind] at hT;have hV:V=.fail er k1':=by rw[HV.out,<- hT];try rfl
          subst hV;refine (keep_bad ST6.out er her _).mono ?_;rintro e w7 ⟨rfl,rfl⟩;exact⟨rfl,rfl,_,ST6.out.mv⟩
      ·have n91:(lookF L j==91)=false:=by simpa using h91
       rw[if_neg (by simp[h91]),if_neg h91] at hO;by_cases h38:lookF L j=38
       ·have hj1:j<n:=by have:=look_lt' h38 (by omega);have:=HL.out;omega
        rw[if_pos h38] at hO;subst hO;rw[h38] at CP n93 n91;have HSK:skipF L (j+1)<=n:=by have:=skipF_le (L:=L) (k:=j+1) (by have:=HL.out;omega);have:=HL.out;omega
        have CS:=hid (fun W (hW:CurAt W B A n c L (j+1))=>Skip_any B A n c L (j+1) W hW);have CX:=hid (fun W (hW:CurAt W B A n c L (skipF L (j+1)))=>IH B A n c L (skipF L (j+1)) W hW);rw[<- HS.out] at CX;clear h91 h38;obtain⟨X,hX⟩:∃ X,X=S (skipF L (j+1)):=⟨_,rfl⟩
        rw[<- hX] at hT CX;have HX:=hid hX;have HO:=hid hT;clear hX hT
        go_wp2_with (first
         | (go_at_call 46;((with_reducible refine (CP.out _ (Ext.refl _)).mono ?_);rintro e w1 ⟨rfl,x1⟩;have X1:=hid x1;have ST1:=hid (ST.out.ext x1);clear t0 q0 k1 kz kl;have t0:=ST1.out.box;have q0:=ST1.out.val;have k1:=ST1.out.cur.c1;have kz:=ST1.out.cur.fz;have kl:=ST1.out.cur.lt;clear x1))
         | (go_at_call 46;((with_reducible refine (CP.out _ X1.out).mono ?_);rintro e w2 ⟨rfl,x2⟩;have X2:=hid (X1.out.trans x2);have ST2:=hid (ST1.out.ext x2);have ST2s:=hid (ST2.out.go H.out ((Mv.refl ST2.out.cur).setX ST2.out.cur (x:=(j:Int)+1) (i:=j+1) (by omega)) (by omega));clear t0 q0 k1 kz kl;have t0:=ST2.out.box;have q0:=ST2.out.val;have k1:=ST2.out.cur.c1;have kz:=ST2.out.cur.fz;have kl:=ST2.out.cur.lt;have tt:=ST2s.out.box;clear x2))
         | (go_at_call 74;((with_reducible refine (CS.out _ ST2s.out.cur).mono ?_);rintro e w3 ⟨rfl,m3⟩;have ST3:=hid (ST2s.out.go H.out m3 HSK);clear t0 q0 k1 kz kl;clear tt;have t0:=ST3.out.box;have q0:=ST3.out.val;have k1:=ST3.out.cur.c1;have kz:=ST3.out.cur.fz;have kl:=ST3.out.cur.lt;clear m3)))
        have ST4:=hid (ST3.out.ext (Ext.refl _).drew);refine wp_region_E (fun w'=>w'.cell? ⟨Qb,0,none⟩=some (.slice A' n' c')/\w'.cell? ⟨Tb,0,none⟩=some (.pointer (some ⟨B,0,none⟩))) 9 (by kernel_rfl) ?_;have hS:(fun w':World=>w'.cell? ⟨Qb,0,none⟩=some (.slice A' n' c')/\w'.cell? ⟨Tb,0,none⟩=some (.pointer (some ⟨B,0,none⟩))) _:=⟨ST4.out.val,ST4.out.box⟩
        clear t0 q0 k1 kz kl;refine wpE_take [] (i:=0) (v:=?vk3n0) rfl (by kernel_rfl) (by kernel_rfl) (by kernel_rfl) (by kernel_rfl) (by kernel_rfl) (fun _ _ _ h=>h) hS (Or.inl ⟨by rfl,?hyk3n0⟩) ?restk3n0
        case hyk3n0=>
         intro w' hSw;obtain⟨hs1,hs2⟩:=hSw;go_simp;with_reducible rfl
        simp only[Act.put,getElem_toArray,getElem_cons_zero,getElem_cons_succ,setIfInBounds_toArray,set_cons_zero,set_cons_succ];refine wpE_take [7,6] (i:=1) (v:=?vk3n1) rfl (by kernel_rfl) (by kernel_rfl) (by kernel_rfl) (by kernel_rfl) (by kernel_rfl) (fun _ _ _ h=>h) hS (Or.inl ⟨by rfl,?hyk3n1⟩) ?restk3n1
        case hyk3n1=>
         intro w' hSw;obtain⟨hs1,hs2⟩:=hSw;go_simp;with_reducible rfl
        simp only[Act.put,getElem_toArray,getElem_cons_zero,getElem_cons_succ,setIfInBounds_toArray,set_cons_zero,set_cons_succ];refine wpE_take [7,6,5] (i:=2) (v:=?vk3n2) rfl (by kernel_rfl) (by kernel_rfl) (by kernel_rfl) (by kernel_rfl) (by kernel_rfl) (fun _ _ _ h=>h) hS (Or.inl ⟨by rfl,?hyk3n2⟩) ?restk3n2
        case hyk3n2=>
         intro w' hSw;obtain⟨hs1,hs2⟩:=hSw;go_simp;with_reducible rfl
        simp only[Act.put,getElem_toArray,getElem_cons_zero,getElem_cons_succ,setIfInBounds_toArray,set_cons_zero,set_cons_succ];refine wpE_take [7,6,5,4] (i:=3) (v:=?vk3n3) rfl (by kernel_rfl) (by kernel_rfl) (by kernel_rfl) (by kernel_rfl) (by kernel_rfl) (fun _ _ _ h=>h) hS (Or.inl ⟨by rfl,?hyk3n3⟩) ?restk3n3
        case hyk3n3=>
         intro w' hSw;obtain⟨hs1,hs2⟩:=hSw;go_simp;with_reducible rfl
        simp only[Act.put,getElem_toArray,getElem_cons_zero,getElem_cons_succ,setIfInBounds_toArray,set_cons_zero,set_cons_succ];refine wpE_take [7,6,5] (i:=4) (v:=?vk3n4) rfl (by kernel_rfl) (by kernel_rfl) (by kernel_rfl) (by kernel_rfl) (by kernel_rfl) (fun _ _ _ h=>h) hS (Or.inl ⟨by rfl,?hyk3n4⟩) ?restk3n4
        case hyk3n4=>
         intro w' hSw;obtain⟨hs1,hs2⟩:=hSw;go_simp;with_reducible rfl
        simp only[Act.put,getElem_toArray,getElem_cons_zero,getElem_cons_succ,setIfInBounds_toArray,set_cons_zero,set_cons_succ];refine wpE_one (i:=5) rfl (by kernel_rfl) (fun K1 hK1=>?_);go_simp;go_at_call 76;refine (CX.out _ ST4.out.cur).mono ?_;intro e w5 h5;have hT:=HO.out
        cases X with
        | fail er q=>
         simp only[PR.bind] at hT;have hV:V=.fail er q:=by rw[HV.out,<- hT];try rfl
         subst hV;obtain⟨rfl,q,m5⟩:=h5;exact⟨rfl,rfl,_,(ST4.out.mv.trans H.out m5)⟩
        | ok s1' k1'=>
         obtain⟨v,rfl,⟨A1,n1,c1,rfl,s1⟩,m5⟩:=h5;have hadv:=(HSA.out (skipF L (j+1))).le (k':=j) (m':=1) (by have:=skipF_ge (L:=L) (k:=j+1);omega);have HK1:k1'<=n:=by have:=(hadv _ _ HX.out.symm).2;have:=HL.out;omega
         have HP:Hid (j+1<=k1'):=hid (by have:=(hadv _ _ HX.out.symm).1;omega);have HSK1:skipF L k1'<=n:=by have:=skipF_le (L:=L) (k:=k1') (by have:=HL.out;omega);have:=HL.out;omega
         have HP:=hid (Nat.le_trans HP.out (skipF_ge (L:=L) (k:=k1')));have CS1:=hid (fun W (hW:CurAt W B A n c L k1')=>Skip_any B A n c L k1' W hW);simp only[PR.bind] at hT;obtain⟨⟨so,er⟩,hop⟩:∃ o,meetO s s1'=o:=⟨_,rfl⟩
         rw[hop] at hT;unfold keepF at hT;dsimp only at hT;have HO:=hid hT;clear hT hadv;have ST5:=hid (ST4.out.go H.out m5 HK1);have S1:=hid (ST4.out.fresh s1);clear s1 m5;dsimp only;refine hK1.out _ _ (.inr ⟨ST5.out.val,ST5.out.box⟩) ?_
         try simp only[Act.put,getElem_toArray,getElem_cons_zero,getElem_cons_succ,setIfInBounds_toArray,set_cons_zero,set_cons_succ]
         refine wpE_one (i:=6) rfl (by kernel_rfl) (fun K2 hK2=>?_);go_simp;go_at_call 113;refine (MeetF_any A' n' c' s A1 n1 c1 s1' _ (ST5.out.sp.mono (fun _ _ h=>h) (fun _ _=>trivial)) (S1.out.mono (fun _ _ h=>h) (fun _ _=>trivial))).mono ?_;rintro e w6 ⟨hso,x6⟩;change SetO _ (meetO s s1') w6 e at hso;rw[hop] at hso;obtain⟨A2,c2,rfl,s2⟩:=hso;have ST6:=hid (ST5.out.ext x6);have S2:=hid (ST5.out.fresh s2);clear s2 x6;dsimp only;refine hK2.out _ _ (.inr ⟨ST6.out.val,ST6.out.box⟩) ?_
         try simp only[Act.put,getElem_toArray,getElem_cons_zero,getElem_cons_succ,setIfInBounds_toArray,set_cons_zero,set_cons_succ]
         have hS6:(fun w':World=>w'.cell? ⟨Qb,0,none⟩=some (.slice A' n' c')/\w'.cell? ⟨Tb,0,none⟩=some (.pointer (some ⟨B,0,none⟩))) w6:=⟨ST6.out.val,ST6.out.box⟩
         refine wpE_take [] (i:=7) (v:=?vk3ne7) rfl (by kernel_rfl) (by kernel_rfl) (by kernel_rfl) (by kernel_rfl) (by kernel_rfl) (fun _ _ _ h=>h) hS6 (Or.inl ⟨by rfl,?hyk3ne7⟩) ?restk3ne7
         case hyk3ne7=>
          intro w' hSw;obtain⟨hs1,hs2⟩:=hSw;go_simp;with_reducible rfl
         simp only[Act.put,getElem_toArray,getElem_cons_zero,getElem_cons_succ,setIfInBounds_toArray,set_cons_zero,set_cons_succ];refine wpE_take [] (i:=8) (v:=?vk3ne8) rfl (by kernel_rfl) (by kernel_rfl) (by kernel_rfl) (by kernel_rfl) (by kernel_rfl) (fun _ _ _ h=>h) hS6 (Or.inl ⟨by rfl,?hyk3ne8⟩) ?restk3ne8
         case hyk3ne8=>
          intro w' hSw;obtain⟨hs1,hs2⟩:=hSw;go_simp;with_reducible rfl
         simp only[Act.put,getElem_toArray,getElem_cons_zero,getElem_cons_succ,setIfInBounds_toArray,set_cons_zero,set_cons_succ];refine wpE_one (i:=9) rfl (by kernel_rfl) (fun K3 hK3=>?_);go_simp;go_at_call 110;have hT:=HO.out;by_cases her:er=0
         ·rw[if_neg (by simp[her])] at hT;simp only[PR.bind] at hT;have HN:=hid hT;have HF:Hid (n<f+skipF L k1'):=hid (by have:=HFJ.out;have:=HP.out;omega);subst her;clear hT hop;refine (keep_ok ST6.out S2.out).mono ?_;rintro e w7 ⟨rfl,st7⟩;have ST7:=hid st7;clear st7 hS hS6;dsimp only;refine hK3.out _ _ (.inl rfl) ?_;refine wpE_done (by kernel_rfl) ?_ _
          try simp only[Act.put,getElem_toArray,getElem_cons_zero,getElem_cons_succ,setIfInBounds_toArray,set_cons_zero,set_cons_succ]
          have t0:=ST7.out.box;have q0:=ST7.out.val;have k1:=ST7.out.cur.c1;have kz:=ST7.out.cur.fz;have kl:=ST7.out.cur.lt
          go_wp2_with (first
           | (go_at_call 74;((with_reducible refine (CS1.out _ ST7.out.cur).mono ?_);rintro e w8 ⟨rfl,m8⟩;have ST8:=hid (ST7.out.go H.out m8 HSK1);have HA8:=hid ST8.out.cur.at_;clear m8)))
          go_roundw;case rel=>exact⟨f,skipF L k1',_,_,_,so,HF,HSK1,HN,ST8⟩
          case measure=>have e1:=HA.out;have e2:=HA8.out;have:=HP.out;rw[e1,e2];omega
         ·rw[if_pos her] at hT;simp only[PR.bind] at hT;have hV:V=.fail er k1':=by rw[HV.out,<- hT];try rfl
          subst hV;refine (keep_bad ST6.out er her _).mono ?_;rintro e w7 ⟨rfl,rfl⟩;exact⟨rfl,rfl,_,ST6.out.mv⟩
       ·rw[if_neg h38] at hO;have n38:(lookF L j==38)=false:=by simpa using h38
        by_cases h45:lookF L j=45
        ·have hj1:j<n:=by have:=look_lt' h45 (by omega);have:=HL.out;omega
         rw[if_pos h45] at hO;subst hO;rw[h45] at CP n93 n91 n38;have HSK:skipF L (j+1)<=n:=by have:=skipF_le (L:=L) (k:=j+1) (by have:=HL.out;omega);have:=HL.out;omega
         have CS:=hid (fun W (hW:CurAt W B A n c L (j+1))=>Skip_any B A n c L (j+1) W hW);have CX:=hid (fun W (hW:CurAt W B A n c L (skipF L (j+1)))=>IH B A n c L (skipF L (j+1)) W hW);rw[<- HS.out] at CX;clear h91 h38 h45;obtain⟨X,hX⟩:∃ X,X=S (skipF L (j+1)):=⟨_,rfl⟩
         rw[<- hX] at hT CX;have HX:=hid hX;have HO:=hid hT;clear hX hT
         go_wp2_with (first
          | (go_at_call 46;((with_reducible refine (CP.out _ (Ext.refl _)).mono ?_);rintro e w1 ⟨rfl,x1⟩;have X1:=hid x1;have ST1:=hid (ST.out.ext x1);clear t0 q0 k1 kz kl;have t0:=ST1.out.box;have q0:=ST1.out.val;have k1:=ST1.out.cur.c1;have kz:=ST1.out.cur.fz;have kl:=ST1.out.cur.lt;clear x1))
          | (go_at_call 46;((with_reducible refine (CP.out _ X1.out).mono ?_);rintro e w2 ⟨rfl,x2⟩;have X2:=hid (X1.out.trans x2);have ST2:=hid (ST1.out.ext x2);have ST2s:=hid (ST2.out.go H.out ((Mv.refl ST2.out.cur).setX ST2.out.cur (x:=(j:Int)+1) (i:=j+1) (by omega)) (by omega));clear t0 q0 k1 kz kl;have t0:=ST2.out.box;have q0:=ST2.out.val;have k1:=ST2.out.cur.c1;have kz:=ST2.out.cur.fz;have kl:=ST2.out.cur.lt;have tt:=ST2s.out.box;clear x2))
          | (go_at_call 74;((with_reducible refine (CS.out _ ST2s.out.cur).mono ?_);rintro e w3 ⟨rfl,m3⟩;have ST3:=hid (ST2s.out.go H.out m3 HSK);clear t0 q0 k1 kz kl;clear tt;have t0:=ST3.out.box;have q0:=ST3.out.val;have k1:=ST3.out.cur.c1;have kz:=ST3.out.cur.fz;have kl:=ST3.out.cur.lt;clear m3)))
         have ST4:=hid (ST3.out.ext (Ext.refl _).drew);refine wp_region_E (fun w'=>w'.cell? ⟨Qb,0,none⟩=some (.slice A' n' c')/\w'.cell? ⟨Tb,0,none⟩=some (.pointer (some ⟨B,0,none⟩))) 9 (by kernel_rfl) ?_;have hS:(fun w':World=>w'.cell? ⟨Qb,0,none⟩=some (.slice A' n' c')/\w'.cell? ⟨Tb,0,none⟩=some (.pointer (some ⟨B,0,none⟩))) _:=⟨ST4.out.val,ST4.out.box⟩
         clear t0 q0 k1 kz kl;refine wpE_take [] (i:=0) (v:=?vk4n0) rfl (by kernel_rfl) (by kernel_rfl) (by kernel_rfl) (by kernel_rfl) (by kernel_rfl) (fun _ _ _ h=>h) hS (Or.inl ⟨by rfl,?hyk4n0⟩) ?restk4n0
         case hyk4n0=>
          intro w' hSw;obtain⟨hs1,hs2⟩:=hSw;go_simp;with_reducible rfl
         simp only[Act.put,getElem_toArray,getElem_cons_zero,getElem_cons_succ,setIfInBounds_toArray,set_cons_zero,set_cons_succ];refine wpE_take [7,6] (i:=1) (v:=?vk4n1) rfl (by kernel_rfl) (by kernel_rfl) (by kernel_rfl) (by kernel_rfl) (by kernel_rfl) (fun _ _ _ h=>h) hS (Or.inl ⟨by rfl,?hyk4n1⟩) ?restk4n1
         case hyk4n1=>
          intro w' hSw;obtain⟨hs1,hs2⟩:=hSw;go_simp;with_reducible rfl
         simp only[Act.put,getElem_toArray,getElem_cons_zero,getElem_cons_succ,setIfInBounds_toArray,set_cons_zero,set_cons_succ];refine wpE_take [7,6,5] (i:=2) (v:=?vk4n2) rfl (by kernel_rfl) (by kernel_rfl) (by kernel_rfl) (by kernel_rfl) (by kernel_rfl) (fun _ _ _ h=>h) hS (Or.inl ⟨by rfl,?hyk4n2⟩) ?restk4n2
         case hyk4n2=>
          intro w' hSw;obtain⟨hs1,hs2⟩:=hSw;go_simp;with_reducible rfl
         simp only[Act.put,getElem_toArray,getElem_cons_zero,getElem_cons_succ,setIfInBounds_toArray,set_cons_zero,set_cons_succ];refine wpE_take [7,6,5,4] (i:=3) (v:=?vk4n3) rfl (by kernel_rfl) (by kernel_rfl) (by kernel_rfl) (by kernel_rfl) (by kernel_rfl) (fun _ _ _ h=>h) hS (Or.inl ⟨by rfl,?hyk4n3⟩) ?restk4n3
         case hyk4n3=>
          intro w' hSw;obtain⟨hs1,hs2⟩:=hSw;go_simp;with_reducible rfl
         simp only[Act.put,getElem_toArray,getElem_cons_zero,getElem_cons_succ,setIfInBounds_toArray,set_cons_zero,set_cons_succ];refine wpE_take [7,6,5] (i:=4) (v:=?vk4n4) rfl (by kernel_rfl) (by kernel_rfl) (by kernel_rfl) (by kernel_rfl) (by kernel_rfl) (fun _ _ _ h=>h) hS (Or.inl ⟨by rfl,?hyk4n4⟩) ?restk4n4
         case hyk4n4=>
          intro w' hSw;obtain⟨hs1,hs2⟩:=hSw;go_simp;with_reducible rfl
         simp only[Act.put,getElem_toArray,getElem_cons_zero,getElem_cons_succ,setIfInBounds_toArray,set_cons_zero,set_cons_succ];refine wpE_one (i:=5) rfl (by kernel_rfl) (fun K1 hK1=>?_);go_simp;go_at_call 76;refine (CX.out _ ST4.out.cur).mono ?_;intro e w5 h5;have hT:=HO.out
         cases X with
         | fail er q=>
          simp only[PR.bind] at hT;have hV:V=.fail er q:=by rw[HV.out,<- hT];try rfl
          subst hV;obtain⟨rfl,q,m5⟩:=h5;exact⟨rfl,rfl,_,(ST4.out.mv.trans H.out m5)⟩
         | ok s1' k1'=>
          obtain⟨v,rfl,⟨A1,n1,c1,rfl,s1⟩,m5⟩:=h5;have hadv:=(HSA.out (skipF L (j+1))).le (k':=j) (m':=1) (by have:=skipF_ge (L:=L) (k:=j+1);omega);have HK1:k1'<=n:=by have:=(hadv _ _ HX.out.symm).2;have:=HL.out;omega
          have HP:Hid (j+1<=k1'):=hid (by have:=(hadv _ _ HX.out.symm).1;omega);have HSK1:skipF L k1'<=n:=by have:=skipF_le (L:=L) (k:=k1') (by have:=HL.out;omega);have:=HL.out;omega
          have HP:=hid (Nat.le_trans HP.out (skipF_ge (L:=L) (k:=k1')));have CS1:=hid (fun W (hW:CurAt W B A n c L k1')=>Skip_any B A n c L k1' W hW);simp only[PR.bind] at hT;obtain⟨⟨so,er⟩,hop⟩:∃ o,minusO s s1'=o:=⟨_,rfl⟩
          rw[hop] at hT;unfold keepF at hT;dsimp only at hT;have HO:=hid hT;clear hT hadv;have ST5:=hid (ST4.out.go H.out m5 HK1);have S1:=hid (ST4.out.fresh s1);clear s1 m5;dsimp only;refine hK1.out _ _ (.inr ⟨ST5.out.val,ST5.out.box⟩) ?_
          try simp only[Act.put,getElem_toArray,getElem_cons_zero,getElem_cons_succ,setIfInBounds_toArray,set_cons_zero,set_cons_succ]
          refine wpE_one (i:=6) rfl (by kernel_rfl) (fun K2 hK2=>?_);go_simp;go_at_call 114;refine (MinusF_any A' n' c' s A1 n1 c1 s1' _ (ST5.out.sp.mono (fun _ _ h=>h) (fun _ _=>trivial)) (S1.out.mono (fun _ _ h=>h) (fun _ _=>trivial))).mono ?_;rintro e w6 ⟨hso,x6⟩;change SetO _ (minusO s s1') w6 e at hso;rw[hop] at hso;obtain⟨A2,c2,rfl,s2⟩:=hso;have ST6:=hid (ST5.out.ext x6);have S2:=hid (ST5.out.fresh s2);clear s2 x6;dsimp only;refine hK2.out _ _ (.inr ⟨ST6.out.val,ST6.out.box⟩) ?_
          try simp only[Act.put,getElem_toArray,getElem_cons_zero,getElem_cons_succ,setIfInBounds_toArray,set_cons_zero,set_cons_succ]
          have hS6:(fun w':World=>w'.cell? ⟨Qb,0,none⟩=some (.slice A' n' c')/\w'.cell? ⟨Tb,0,none⟩=some (.pointer (some ⟨B,0,none⟩))) w6:=⟨ST6.out.val,ST6.out.box⟩
          refine wpE_take [] (i:=7) (v:=?vk4ne7) rfl (by kernel_rfl) (by kernel_rfl) (by kernel_rfl) (by kernel_rfl) (by kernel_rfl) (fun _ _ _ h=>h) hS6 (Or.inl ⟨by rfl,?hyk4ne7⟩) ?restk4ne7
          case hyk4ne7=>
           intro w' hSw;obtain⟨hs1,hs2⟩:=hSw;go_simp;with_reducible rfl
          simp only[Act.put,getElem_toArray,getElem_cons_zero,getElem_cons_succ,setIfInBounds_toArray,set_cons_zero,set_cons_succ];refine wpE_take [] (i:=8) (v:=?vk4ne8) rfl (by kernel_rfl) (by kernel_rfl) (by kernel_rfl) (by kernel_rfl) (by kernel_rfl) (fun _ _ _ h=>h) hS6 (Or.inl ⟨by rfl,?hyk4ne8⟩) ?restk4ne8
          case hyk4ne8=>
           intro w' hSw;obtain⟨hs1,hs2⟩:=hSw;go_simp;with_reducible rfl
          simp only[Act.put,getElem_toArray,getElem_cons_zero,getElem_cons_succ,setIfInBounds_toArray,set_cons_zero,set_cons_succ];refine wpE_one (i:=9) rfl (by kernel_rfl) (fun K3 hK3=>?_);go_simp;go_at_call 110;have hT:=HO.out;by_cases her:er=0
          ·rw[if_neg (by simp[her])] at hT;simp only[PR.bind] at hT;have HN:=hid hT;have HF:Hid (n<f+skipF L k1'):=hid (by have:=HFJ.out;have:=HP.out;omega);subst her;clear hT hop;refine (keep_ok ST6.out S2.out).mono ?_;rintro e w7 ⟨rfl,st7⟩;have ST7:=hid st7;clear st7 hS hS6;dsimp only;refine hK3.out _ _ (.inl rfl) ?_;refine wpE_done (by kernel_rfl) ?_ _
           try simp only[Act.put,getElem_toArray,getElem_cons_zero,getElem_cons_succ,setIfInBounds_toArray,set_cons_zero,set_cons_succ]
           have t0:=ST7.out.box;have q0:=ST7.out.val;have k1:=ST7.out.cur.c1;have kz:=ST7.out.cur.fz;have kl:=ST7.out.cur.lt
           go_wp2_with (first
            | (go_at_call 74;((with_reducible refine (CS1.out _ ST7.out.cur).mono ?_);rintro e w8 ⟨rfl,m8⟩;have ST8:=hid (ST7.out.go H.out m8 HSK1);have HA8:=hid ST8.out.cur.at_;clear m8)))
           go_roundw;case rel=>exact⟨f,skipF L k1',_,_,_,so,HF,HSK1,HN,ST8⟩
           case measure=>have e1:=HA.out;have e2:=HA8.out;have:=HP.out;rw[e1,e2];omega
          ·rw[if_pos her] at hT;simp only[PR.bind] at hT;have hV:V=.fail er k1':=by rw[HV.out,<- hT];try rfl
           subst hV;refine (keep_bad ST6.out er her _).mono ?_;rintro e w7 ⟨rfl,rfl⟩;exact⟨rfl,rfl,_,ST6.out.mv⟩
        ·rw[if_neg h45] at hO;have n45:(lookF L j==45)=false:=by simpa using h45
         subst hO;have CX:=hid (fun W (hW:CurAt W B A n c L j)=>spanC_any B A n c L j W hW);generalize lookF L j=r1 at CP n93 n91 n38 n45;clear h91 h38 h45;obtain⟨X,hX⟩:∃ X,X=spanF L j:=⟨_,rfl⟩
         rw[<- hX] at hT CX;have HX:=hid hX;have HO:=hid hT;clear hX hT
         go_wp2_with (first
          | (go_at_call 46;((with_reducible refine (CP.out _ (Ext.refl _)).mono ?_);rintro e w1 ⟨rfl,x1⟩;have X1:=hid x1;have ST1:=hid (ST.out.ext x1);clear t0 q0 k1 kz kl;have t0:=ST1.out.box;have q0:=ST1.out.val;have k1:=ST1.out.cur.c1;have kz:=ST1.out.cur.fz;have kl:=ST1.out.cur.lt;clear x1))
          | (go_at_call 46;((with_reducible refine (CP.out _ X1.out).mono ?_);rintro e w2 ⟨rfl,x2⟩;have X2:=hid (X1.out.trans x2);have ST2:=hid (ST1.out.ext x2);clear t0 q0 k1 kz kl;have t0:=ST2.out.box;have q0:=ST2.out.val;have k1:=ST2.out.cur.c1;have kz:=ST2.out.cur.fz;have kl:=ST2.out.cur.lt;clear x2)))
         have ST4:=hid (ST2.out.ext (Ext.refl _).drew);refine wp_region_E (fun w'=>w'.cell? ⟨Qb,0,none⟩=some (.slice A' n' c')/\w'.cell? ⟨Tb,0,none⟩=some (.pointer (some ⟨B,0,none⟩))) 7 (by kernel_rfl) ?_;have hS:(fun w':World=>w'.cell? ⟨Qb,0,none⟩=some (.slice A' n' c')/\w'.cell? ⟨Tb,0,none⟩=some (.pointer (some ⟨B,0,none⟩))) _:=⟨ST4.out.val,ST4.out.box⟩
         clear t0 q0 k1 kz kl;refine wpE_take [] (i:=0) (v:=?vk5n0) rfl (by kernel_rfl) (by kernel_rfl) (by kernel_rfl) (by kernel_rfl) (by kernel_rfl) (fun _ _ _ h=>h) hS (Or.inl ⟨by rfl,?hyk5n0⟩) ?restk5n0
         case hyk5n0=>
          intro w' hSw;obtain⟨hs1,hs2⟩:=hSw;go_simp;with_reducible rfl
         simp only[Act.put,getElem_toArray,getElem_cons_zero,getElem_cons_succ,setIfInBounds_toArray,set_cons_zero,set_cons_succ];refine wpE_take [5,4] (i:=1) (v:=?vk5n1) rfl (by kernel_rfl) (by kernel_rfl) (by kernel_rfl) (by kernel_rfl) (by kernel_rfl) (fun _ _ _ h=>h) hS (Or.inl ⟨by rfl,?hyk5n1⟩) ?restk5n1
         case hyk5n1=>
          intro w' hSw;obtain⟨hs1,hs2⟩:=hSw;go_simp;with_reducible rfl
         simp only[Act.put,getElem_toArray,getElem_cons_zero,getElem_cons_succ,setIfInBounds_toArray,set_cons_zero,set_cons_succ];refine wpE_take [5,4,3] (i:=2) (v:=?vk5n2) rfl (by kernel_rfl) (by kernel_rfl) (by kernel_rfl) (by kernel_rfl) (by kernel_rfl) (fun _ _ _ h=>h) hS (Or.inl ⟨by rfl,?hyk5n2⟩) ?restk5n2
         case hyk5n2=>
          intro w' hSw;obtain⟨hs1,hs2⟩:=hSw;go_simp;with_reducible rfl
         simp only[Act.put,getElem_toArray,getElem_cons_zero,getElem_cons_succ,setIfInBounds_toArray,set_cons_zero,set_cons_succ];refine wpE_one (i:=3) rfl (by kernel_rfl) (fun K1 hK1=>?_);go_simp;go_at_call 115;refine (CX.out _ ST4.out.cur).mono ?_;intro e w5 h5;have hT:=HO.out
         cases X with
         | fail er q=>
          simp only[PR.bind] at hT;have hV:V=.fail er q:=by rw[HV.out,<- hT];try rfl
          subst hV;obtain⟨rfl,q,m5⟩:=h5;exact⟨rfl,rfl,_,(ST4.out.mv.trans H.out m5)⟩
         | ok s1' k1'=>
          obtain⟨v,rfl,⟨A1,n1,c1,rfl,s1⟩,m5⟩:=h5;have hadv:=spanF_adv (L:=L) (k:=j);have HK1:k1'<=n:=by have:=(hadv _ _ HX.out.symm).2;have:=HL.out;omega
          have HP:Hid (j+1<=k1'):=hid (by have:=(hadv _ _ HX.out.symm).1;omega);have HSK1:skipF L k1'<=n:=by have:=skipF_le (L:=L) (k:=k1') (by have:=HL.out;omega);have:=HL.out;omega
          have HP:=hid (Nat.le_trans HP.out (skipF_ge (L:=L) (k:=k1')));have CS1:=hid (fun W (hW:CurAt W B A n c L k1')=>Skip_any B A n c L k1' W hW);simp only[PR.bind] at hT;obtain⟨⟨so,er⟩,hop⟩:∃ o,unionO s s1'=o:=⟨_,rfl⟩
          rw[hop] at hT;unfold keepF at hT;dsimp only at hT;have HO:=hid hT;clear hT hadv;have ST5:=hid (ST4.out.go H.out m5 HK1);have S1:=hid (ST4.out.fresh s1);clear s1 m5;dsimp only;refine hK1.out _ _ (.inr ⟨ST5.out.val,ST5.out.box⟩) ?_
          try simp only[Act.put,getElem_toArray,getElem_cons_zero,getElem_cons_succ,setIfInBounds_toArray,set_cons_zero,set_cons_succ]
          refine wpE_one (i:=4) rfl (by kernel_rfl) (fun K2 hK2=>?_);go_simp;go_at_call 111;refine (UnionF_any A' n' c' s A1 n1 c1 s1' _ (ST5.out.sp.mono (fun _ _ h=>h) (fun _ _=>trivial)) (S1.out.mono (fun _ _ h=>h) (fun _ _=>trivial))).mono ?_;rintro e w6 ⟨hso,x6⟩;change SetO _ (unionO s s1') w6 e at hso;rw[hop] at hso;obtain⟨A2,c2,rfl,s2⟩:=hso;have ST6:=hid (ST5.out.ext x6);have S2:=hid (ST5.out.fresh s2);clear s2 x6;dsimp only;refine hK2.out _ _ (.inr ⟨ST6.out.val,ST6.out.box⟩) ?_
          try simp only[Act.put,getElem_toArray,getElem_cons_zero,getElem_cons_succ,setIfInBounds_toArray,set_cons_zero,set_cons_succ]
          have hS6:(fun w':World=>w'.cell? ⟨Qb,0,none⟩=some (.slice A' n' c')/\w'.cell? ⟨Tb,0,none⟩=some (.pointer (some ⟨B,0,none⟩))) w6:=⟨ST6.out.val,ST6.out.box⟩
          refine wpE_take [] (i:=5) (v:=?vk5ne5) rfl (by kernel_rfl) (by kernel_rfl) (by kernel_rfl) (by kernel_rfl) (by kernel_rfl) (fun _ _ _ h=>h) hS6 (Or.inl ⟨by rfl,?hyk5ne5⟩) ?restk5ne5
          case hyk5ne5=>
           intro w' hSw;obtain⟨hs1,hs2⟩:=hSw;go_simp;with_reducible rfl
          simp only[Act.put,getElem_toArray,getElem_cons_zero,getElem_cons_succ,setIfInBounds_toArray,set_cons_zero,set_cons_succ];refine wpE_take [] (i:=6) (v:=?vk5ne6) rfl (by kernel_rfl) (by kernel_rfl) (by kernel_rfl) (by kernel_rfl) (by kernel_rfl) (fun _ _ _ h=>h) hS6 (Or.inl ⟨by rfl,?hyk5ne6⟩) ?restk5ne6
          case hyk5ne6=>
           intro w' hSw;obtain⟨hs1,hs2⟩:=hSw;go_simp;with_reducible rfl
          simp only[Act.put,getElem_toArray,getElem_cons_zero,getElem_cons_succ,setIfInBounds_toArray,set_cons_zero,set_cons_succ];refine wpE_one (i:=7) rfl (by kernel_rfl) (fun K3 hK3=>?_);go_simp;go_at_call 110;have hT:=HO.out;by_cases her:er=0
          ·rw[if_neg (by simp[her])] at hT;simp only[PR.bind] at hT;have HN:=hid hT;have HF:Hid (n<f+skipF L k1'):=hid (by have:=HFJ.out;have:=HP.out;omega);subst her;clear hT hop;refine (keep_ok ST6.out S2.out).mono ?_;rintro e w7 ⟨rfl,st7⟩;have ST7:=hid st7;clear st7 hS hS6;dsimp only;refine hK3.out _ _ (.inl rfl) ?_;refine wpE_done (by kernel_rfl) ?_ _
           try simp only[Act.put,getElem_toArray,getElem_cons_zero,getElem_cons_succ,setIfInBounds_toArray,set_cons_zero,set_cons_succ]
           have t0:=ST7.out.box;have q0:=ST7.out.val;have k1:=ST7.out.cur.c1;have kz:=ST7.out.cur.fz;have kl:=ST7.out.cur.lt
           go_wp2_with (first
            | (go_at_call 74;((with_reducible refine (CS1.out _ ST7.out.cur).mono ?_);rintro e w8 ⟨rfl,m8⟩;have ST8:=hid (ST7.out.go H.out m8 HSK1);have HA8:=hid ST8.out.cur.at_;clear m8)))
           go_roundw;case rel=>exact⟨f,skipF L k1',_,_,_,so,HF,HSK1,HN,ST8⟩
           case measure=>have e1:=HA.out;have e2:=HA8.out;have:=HP.out;rw[e1,e2];omega
          ·rw[if_pos her] at hT;simp only[PR.bind] at hT;have hV:V=.fail er k1':=by rw[HV.out,<- hT];try rfl
           subst hV;refine (keep_bad ST6.out er her _).mono ?_;rintro e w7 ⟨rfl,rfl⟩;exact⟨rfl,rfl,_,ST6.out.mv⟩
   ·rw[if_neg h94] at hV;have n94:(lookF L (k+1)==94)=false:=by simpa using h94
    generalize lookF L (k+1)=r0 at CP1 n94;have HJ0:skipF L (k+1)<=n:=by have:=skipF_le (L:=L) (k:=k+1) (by have:=HL.out;omega);have:=HL.out;omega
    obtain⟨T,hT0⟩:∃ T,opsF L S (L.length+1) [] (skipF L (k+1))=T:=⟨_,rfl⟩
    rw[hT0] at hV;have HT0:=hid hT0;have HV:=hid hV;have HF0:Hid (n<L.length+1+skipF L (k+1)):=hid (by have:=HL.out;omega);have CS0:=hid (fun W (hW:CurAt W B A n c L (k+1))=>Skip_any B A n c L (k+1) W hW);clear hV hT0 h91 h h94;go_enter Tryz.func76,Tryz.ntmps76
    go_wp2_with (first
     | (go_at_call 48;((with_reducible refine (CN.out _ e1).mono ?_);rintro e w1 ⟨v,rfl,rfl,m1⟩;have M1:=hid ((Mv.of H.out e1).trans H.out m1);have HC1:=hid (H.out.mv M1.out (by omega));have b1:=m1.agree.cell (a:=⟨w.heap.size,0,none⟩) (by show w.heap.size≠B;omega) b0;have bl:=Nat.lt_of_lt_of_le bl0 m1.size;clear m1))
     | (go_at_call 46;((with_reducible refine (CP1.out _ HC1.out).mono ?_);rintro e w2 ⟨rfl,x2⟩;have HC2:=hid (HC1.out.ext x2);have M2:=hid (M1.out.ext x2);have b2:=x2.cell b1;have bl2:=Nat.lt_of_lt_of_le bl x2.size;have k1:=HC2.out.c1;have kz:=HC2.out.fz;have kl:=HC2.out.lt;have STa:=hid (SAt.start (t:=23) HC2.out M2.out b2 (Nat.le_refl _) bl2 H.out.lt.1);have ta:=STa.out.box;clear x2))
     | (go_at_call 74;((with_reducible refine (CS0.out _ STa.out.cur).mono ?_);rintro e w3 ⟨rfl,m3⟩;have ST0:=hid (STa.out.go H.out m3 HJ0);clear m3)))
    generalize hTb:w.heap.size=Tb at *;generalize hQb:w2.heap.size=Qb at *;have hTB:Tb≠B:=by omega
    clear hTb hQb STa ta;go_loopw [] (fun wr=>∃ (f j:Nat) (A':Option Addr) (n' c':Nat) (s:List Sp),Hid (n<f+j)/\j<=n/\Hid (opsF L S f s j=T)/\Hid (SAt w B Tb Qb A n c L j A' n' c' s wr)) (fun wr=>n-atOf B wr);case atStart=>exact⟨L.length+1,_,_,_,_,[],HF0,HJ0,HT0,ST0⟩
    case round=>
     clear ST0 HF0 HT0 HJ0;obtain⟨f',j,A',n',c',s,HFJ',hj,HT,ST⟩:=hrel;obtain⟨f,rfl⟩:∃ f,f'=f+1:=⟨f'-1,by have:=HFJ'.out;omega⟩
     have HFJ:=hid (show n<f+(j+1) by have:=HFJ'.out;omega);have hT:=HT.out;unfold opsF at hT;have CP:=hid (fun W (e:Ext wr W)=>Peek_any B A n c L j W (ST.out.cur.ext e));have HA:=hid ST.out.cur.at_;have wj:IntKind.i64.wrap ((j:Int)+1)=(j:Int)+1:=IntWalk.i64_in _ (by have:=ST.out.cur.nb;omega);have t0:=ST.out.box;have q0:=ST.out.val;have k1:=ST.out.cur.c1;have kz:=ST.out.cur.fz;have kl:=ST.out.cur.lt;clear HFJ' HT;by_cases h93:lookF L j=93
     ·have hj1:j<n:=by have:=look_lt' h93 (by omega);have:=HL.out;omega
      rw[if_pos h93] at hT;rw[h93] at CP;clear h93;have hV:V=.ok s (j+1):=by rw[HV.out,<- hT]
      subst hV;clear hT
      go_wp2_with (first
       | (go_at_call 46;((with_reducible refine (CP.out _ (Ext.refl _)).mono ?_);rintro e w1 ⟨rfl,x1⟩;have ST1:=hid (ST.out.ext x1);have ST1s:=hid (ST1.out.go H.out ((Mv.refl ST1.out.cur).setX ST1.out.cur (x:=(j:Int)+1) (i:=j+1) (by omega)) (by omega));clear t0 q0 k1 kz kl;have t0:=ST1.out.box;have q0:=ST1.out.val;have k1:=ST1.out.cur.c1;have kz:=ST1.out.cur.fz;have kl:=ST1.out.cur.lt;have q1:=ST1s.out.val;clear x1)))
      go_ret;exact⟨_,rfl,⟨A',n',c',rfl,ST1s.out.sp.mono (fun _ _ h=>h) (fun _ h=>h.1)⟩,ST1s.out.mv⟩
     ·rw[if_neg h93] at hT;have n93:(lookF L j != 93)=true:=by simpa using h93
      obtain⟨O,hO⟩:∃ O,opF L S s j=O:=⟨_,rfl⟩
      rw[hO] at hT;unfold opF at hO;clear h93;by_cases h91:lookF L j=91
      ·have hj1:j<n:=by have:=look_lt' h91 (by omega);have:=HL.out;omega
       rw[h91] at CP n93;have CL:=hid (fun W (e:Ext wr W)=>show Calls Tryz.prog 75 #[.pointer (some ⟨B,0,none⟩),.int .i64 1] W fun e w'=>e=.returned (.int .i32 (lookF L (j+1)))/\Ext W w' from by simpa using Look_any B A n c L j 1 W (ST.out.cur.ext e) (by omega));by_cases h58:lookF L (j+1)=58
       ·have hj2:j+1<n:=by have:=look_lt' h58 (by omega);have:=HL.out;omega
        rw[if_pos ⟨h91,h58⟩] at hO;subst hO;rw[h58] at CL;have CX:=hid (fun W (hW:CurAt W B A n c L j)=>clsC_any B A n c L j W hW (by omega));clear h91 h58;obtain⟨X,hX⟩:∃ X,X=classF L j:=⟨_,rfl⟩
        rw[<- hX] at hT CX;have HX:=hid hX;have HO:=hid hT;clear hX hT
        go_wp2_with (first
         | (go_at_call 46;((with_reducible refine (CP.out _ (Ext.refl _)).mono ?_);rintro e w1 ⟨rfl,x1⟩;have X1:=hid x1;have ST1:=hid (ST.out.ext x1);clear t0 q0 k1 kz kl;have t0:=ST1.out.box;have q0:=ST1.out.val;have k1:=ST1.out.cur.c1;have kz:=ST1.out.cur.fz;have kl:=ST1.out.cur.lt;clear x1))
         | (go_at_call 46;((with_reducible refine (CP.out _ X1.out).mono ?_);rintro e w2 ⟨rfl,x2⟩;have X2:=hid (X1.out.trans x2);have ST2:=hid (ST1.out.ext x2);clear t0 q0 k1 kz kl;have t0:=ST2.out.box;have q0:=ST2.out.val;have k1:=ST2.out.cur.c1;have kz:=ST2.out.cur.fz;have kl:=ST2.out.cur.lt;clear x2))
         | (go_at_call 75;((with_reducible refine (CL.out _ X2.out).mono ?_);rintro e w3 ⟨rfl,x3⟩;have ST3:=hid (ST2.out.ext x3);clear t0 q0 k1 kz kl;have t0:=ST3.out.box;have q0:=ST3.out.val;have k1:=ST3.out.cur.c1;have kz:=ST3.out.cur.fz;have kl:=ST3.out.cur.lt;clear x3)))
        have ST4:=hid (ST3.out.ext (Ext.refl _).drew);refine wp_region_E (fun w'=>w'.cell? ⟨Qb,0,none⟩=some (.slice A' n' c')/\w'.cell? ⟨Tb,0,none⟩=some (.pointer (some ⟨B,0,none⟩))) 7 (by kernel_rfl) ?_;have hS:(fun w':World=>w'.cell? ⟨Qb,0,none⟩=some (.slice A' n' c')/\w'.cell? ⟨Tb,0,none⟩=some (.pointer (some ⟨B,0,none⟩))) _:=⟨ST4.out.val,ST4.out.box⟩
        clear t0 q0 k1 kz kl;refine wpE_take [] (i:=0) (v:=?vk1m0) rfl (by kernel_rfl) (by kernel_rfl) (by kernel_rfl) (by kernel_rfl) (by kernel_rfl) (fun _ _ _ h=>h) hS (Or.inl ⟨by rfl,?hyk1m0⟩) ?restk1m0
        case hyk1m0=>
         intro w' hSw;obtain⟨hs1,hs2⟩:=hSw;go_simp;with_reducible rfl
        simp only[Act.put,getElem_toArray,getElem_cons_zero,getElem_cons_succ,setIfInBounds_toArray,set_cons_zero,set_cons_succ];refine wpE_take [5,4] (i:=1) (v:=?vk1m1) rfl (by kernel_rfl) (by kernel_rfl) (by kernel_rfl) (by kernel_rfl) (by kernel_rfl) (fun _ _ _ h=>h) hS (Or.inl ⟨by rfl,?hyk1m1⟩) ?restk1m1
        case hyk1m1=>
         intro w' hSw;obtain⟨hs1,hs2⟩:=hSw;go_simp;with_reducible rfl
        simp only[Act.put,getElem_toArray,getElem_cons_zero,getElem_cons_succ,setIfInBounds_toArray,set_cons_zero,set_cons_succ];refine wpE_take [5,4,3] (i:=2) (v:=?vk1m2) rfl (by kernel_rfl) (by kernel_rfl) (by kernel_rfl) (by kernel_rfl) (by kernel_rfl) (fun _ _ _ h=>h) hS (Or.inl ⟨by rfl,?hyk1m2⟩) ?restk1m2
        case hyk1m2=>
         intro w' hSw;obtain⟨hs1,hs2⟩:=hSw;go_simp;with_reducible rfl
        simp only[Act.put,getElem_toArray,getElem_cons_zero,getElem_cons_succ,setIfInBounds_toArray,set_cons_zero,set_cons_succ];refine wpE_one (i:=3) rfl (by kernel_rfl) (fun K1 hK1=>?_);go_simp;go_at_call 112;refine (CX.out _ ST4.out.cur).mono ?_;intro e w5 h5;have hT:=HO.out
        cases X with
        | fail er q=>
         simp only[PR.bind] at hT;have hV:V=.fail er q:=by rw[HV.out,<- hT];try rfl
         subst hV;obtain⟨rfl,q,m5⟩:=h5;exact⟨rfl,rfl,_,(ST4.out.mv.trans H.out m5)⟩
        | ok s1' k1'=>
         obtain⟨v,rfl,⟨A1,n1,c1,rfl,s1⟩,m5⟩:=h5;have hadv:=classF_adv (L:=L) (k:=j);have HK1:k1'<=n:=by have:=(hadv _ _ HX.out.symm).2;have:=HL.out;omega
         have HP:Hid (j+1<=k1'):=hid (by have:=(hadv _ _ HX.out.symm).1;omega);have HSK1:skipF L k1'<=n:=by have:=skipF_le (L:=L) (k:=k1') (by have:=HL.out;omega);have:=HL.out;omega
         have HP:=hid (Nat.le_trans HP.out (skipF_ge (L:=L) (k:=k1')));have CS1:=hid (fun W (hW:CurAt W B A n c L k1')=>Skip_any B A n c L k1' W hW);simp only[PR.bind] at hT;obtain⟨⟨so,er⟩,hop⟩:∃ o,unionO s s1'=o:=⟨_,rfl⟩
         rw[hop] at hT;unfold keepF at hT;dsimp only at hT;have HO:=hid hT;clear hT hadv;have ST5:=hid (ST4.out.go H.out m5 HK1);have S1:=hid (ST4.out.fresh s1);clear s1 m5;dsimp only;refine hK1.out _ _ (.inr ⟨ST5.out.val,ST5.out.box⟩) ?_
         try simp only[Act.put,getElem_toArray,getElem_cons_zero,getElem_cons_succ,setIfInBounds_toArray,set_cons_zero,set_cons_succ]
         refine wpE_one (i:=4) rfl (by kernel_rfl) (fun K2 hK2=>?_);go_simp;go_at_call 111;refine (UnionF_any A' n' c' s A1 n1 c1 s1' _ (ST5.out.sp.mono (fun _ _ h=>h) (fun _ _=>trivial)) (S1.out.mono (fun _ _ h=>h) (fun _ _=>trivial))).mono ?_;rintro e w6 ⟨hso,x6⟩;change SetO _ (unionO s s1') w6 e at hso;rw[hop] at hso;obtain⟨A2,c2,rfl,s2⟩:=hso;have ST6:=hid (ST5.out.ext x6);have S2:=hid (ST5.out.fresh s2);clear s2 x6;dsimp only;refine hK2.out _ _ (.inr ⟨ST6.out.val,ST6.out.box⟩) ?_
         try simp only[Act.put,getElem_toArray,getElem_cons_zero,getElem_cons_succ,setIfInBounds_toArray,set_cons_zero,set_cons_succ]
         have hS6:(fun w':World=>w'.cell? ⟨Qb,0,none⟩=some (.slice A' n' c')/\w'.cell? ⟨Tb,0,none⟩=some (.pointer (some ⟨B,0,none⟩))) w6:=⟨ST6.out.val,ST6.out.box⟩
         refine wpE_take [] (i:=5) (v:=?vk1me5) rfl (by kernel_rfl) (by kernel_rfl) (by kernel_rfl) (by kernel_rfl) (by kernel_rfl) (fun _ _ _ h=>h) hS6 (Or.inl ⟨by rfl,?hyk1me5⟩) ?restk1me5
         case hyk1me5=>
          intro w' hSw;obtain⟨hs1,hs2⟩:=hSw;go_simp;with_reducible rfl
         simp only[Act.put,getElem_toArray,getElem_cons_zero,getElem_cons_succ,setIfInBounds_toArray,set_cons_zero,set_cons_succ];refine wpE_take [] (i:=6) (v:=?vk1me6) rfl (by kernel_rfl) (by kernel_rfl) (by kernel_rfl) (by kernel_rfl) (by kernel_rfl) (fun _ _ _ h=>h) hS6 (Or.inl ⟨by rfl,?hyk1me6⟩) ?restk1me6
         case hyk1me6=>
          intro w' hSw;obtain⟨hs1,hs2⟩:=hSw;go_simp;with_reducible rfl
         simp only[Act.put,getElem_toArray,getElem_cons_zero,getElem_cons_succ,setIfInBounds_toArray,set_cons_zero,set_cons_succ];refine wpE_one (i:=7) rfl (by kernel_rfl) (fun K3 hK3=>?_);go_simp;go_at_call 110;have hT:=HO.out;by_cases her:er=0
         ·rw[if_neg (by simp[her])] at hT;simp only[PR.bind] at hT;have HN:=hid hT;have HF:Hid (n<f+skipF L k1'):=hid (by have:=HFJ.out;have:=HP.out;omega);subst her;clear hT hop;refine (keep_ok ST6.out S2.out).mono ?_;rintro e w7 ⟨rfl,st7⟩;have ST7:=hid st7;clear st7 hS hS6;dsimp only;refine hK3.out _ _ (.inl rfl) ?_;refine wpE_done (by kernel_rfl) ?_ _
          try simp only[Act.put,getElem_toArray,getElem_cons_zero,getElem_cons_succ,setIfInBounds_toArray,set_cons_zero,set_cons_succ]
          have t0:=ST7.out.box;have q0:=ST7.out.val;have k1:=ST7.out.cur.c1;have kz:=ST7.out.cur.fz;have kl:=ST7.out.cur.lt
          go_wp2_with (first
           | (go_at_call 74;((with_reducible refine (CS1.out _ ST7.out.cur).mono ?_);rintro e w8 ⟨rfl,m8⟩;have ST8:=hid (ST7.out.go H.out m8 HSK1);have HA8:=hid ST8.out.cur.at_;clear m8)))
          go_roundw;case rel=>exact⟨f,skipF L k1',_,_,_,so,HF,HSK1,HN,ST8⟩
          case measure=>have e1:=HA.out;have e2:=HA8.out;have:=HP.out;rw[e1,e2];omega
         ·rw[if_pos her] at hT;simp only[PR.bind] at hT;have hV:V=.fail er k1':=by rw[HV.out,<- hT];try rfl
          subst hV;refine (keep_bad ST6.out er her _).mono ?_;rintro e w7 ⟨rfl,rfl⟩;exact⟨rfl,rfl,_,ST6.out.mv⟩
       ·rw[if_neg (by simp[h58]),if_pos h91] at hO;subst hO;have n58:(lookF L (j+1)==58)=false:=by simpa using h58
        have CX:=hid (fun W (hW:CurAt W B A n c L j)=>IH B A n c L j W hW);rw[<- HS.out] at CX;generalize lookF L (j+1)=r2 at CL n58;clear h91 h58;obtain⟨X,hX⟩:∃ X,X=S j:=⟨_,rfl⟩
        rw[<- hX] at hT CX;have HX:=hid hX;have HO:=hid hT;clear hX hT
        go_wp2_with (first
         | (go_at_call 46;((with_reducible refine (CP.out _ (Ext.refl _)).mono ?_);rintro e w1 ⟨rfl,x1⟩;have X1:=hid x1;have ST1:=hid (ST.out.ext x1);clear t0 q0 k1 kz kl;have t0:=ST1.out.box;have q0:=ST1.out.val;have k1:=ST1.out.cur.c1;have kz:=ST1.out.cur.fz;have kl:=ST1.out.cur.lt;clear x1))
         | (go_at_call 46;((with_reducible refine (CP.out _ X1.out).mono ?_);rintro e w2 ⟨rfl,x2⟩;have X2:=hid (X1.out.trans x2);have ST2:=hid (ST1.out.ext x2);clear t0 q0 k1 kz kl;have t0:=ST2.out.box;have q0:=ST2.out.val;have k1:=ST2.out.cur.c1;have kz:=ST2.out.cur.fz;have kl:=ST2.out.cur.lt;clear x2))
         | (go_at_call 75;((with_reducible refine (CL.out _ X2.out).mono ?_);rintro e w3 ⟨rfl,x3⟩;have ST3:=hid (ST2.out.ext x3);clear t0 q0 k1 kz kl;have t0:=ST3.out.box;have q0:=ST3.out.val;have k1:=ST3.out.cur.c1;have kz:=ST3.out.cur.fz;have kl:=ST3.out.cur.lt;clear x3)))
        have ST4:=hid (ST3.out.ext (Ext.refl _).drew);refine wp_region_E (fun w'=>w'.cell? ⟨Qb,0,none⟩=some (.slice A' n' c')/\w'.cell? ⟨Tb,0,none⟩=some (.pointer (some ⟨B,0,none⟩))) 9 (by kernel_rfl) ?_;have hS:(fun w':World=>w'.cell? ⟨Qb,0,none⟩=some (.slice A' n' c')/\w'.cell? ⟨Tb,0,none⟩=some (.pointer (some ⟨B,0,none⟩))) _:=⟨ST4.out.val,ST4.out.box⟩
        clear t0 q0 k1 kz kl;refine wpE_take [] (i:=0) (v:=?vk2m0) rfl (by kernel_rfl) (by kernel_rfl) (by kernel_rfl) (by kernel_rfl) (by kernel_rfl) (fun _ _ _ h=>h) hS (Or.inl ⟨by rfl,?hyk2m0⟩) ?restk2m0
        case hyk2m0=>
         intro w' hSw;obtain⟨hs1,hs2⟩:=hSw;go_simp;with_reducible rfl
        simp only[Act.put,getElem_toArray,getElem_cons_zero,getElem_cons_succ,setIfInBounds_toArray,set_cons_zero,set_cons_succ];refine wpE_take [7,6] (i:=1) (v:=?vk2m1) rfl (by kernel_rfl) (by kernel_rfl) (by kernel_rfl) (by kernel_rfl) (by kernel_rfl) (fun _ _ _ h=>h) hS (Or.inl ⟨by rfl,?hyk2m1⟩) ?restk2m1
        case hyk2m1=>
         intro w' hSw;obtain⟨hs1,hs2⟩:=hSw;go_simp;with_reducible rfl
        simp only[Act.put,getElem_toArray,getElem_cons_zero,getElem_cons_succ,setIfInBounds_toArray,set_cons_zero,set_cons_succ];refine wpE_take [7,6,5] (i:=2) (v:=?vk2m2) rfl (by kernel_rfl) (by kernel_rfl) (by kernel_rfl) (by kernel_rfl) (by kernel_rfl) (fun _ _ _ h=>h) hS (Or.inl ⟨by rfl,?hyk2m2⟩) ?restk2m2
        case hyk2m2=>
         intro w' hSw;obtain⟨hs1,hs2⟩:=hSw;go_simp;with_reducible rfl
        simp only[Act.put,getElem_toArray,getElem_cons_zero,getElem_cons_succ,setIfInBounds_toArray,set_cons_zero,set_cons_succ];refine wpE_take [7,6,5,4] (i:=3) (v:=?vk2m3) rfl (by kernel_rfl) (by kernel_rfl) (by kernel_rfl) (by kernel_rfl) (by kernel_rfl) (fun _ _ _ h=>h) hS (Or.inl ⟨by rfl,?hyk2m3⟩) ?restk2m3
        case hyk2m3=>
         intro w' hSw;obtain⟨hs1,hs2⟩:=hSw;go_simp;with_reducible rfl
        simp only[Act.put,getElem_toArray,getElem_cons_zero,getElem_cons_succ,setIfInBounds_toArray,set_cons_zero,set_cons_succ];refine wpE_take [7,6,5] (i:=4) (v:=?vk2m4) rfl (by kernel_rfl) (by kernel_rfl) (by kernel_rfl) (by kernel_rfl) (by kernel_rfl) (fun _ _ _ h=>h) hS (Or.inl ⟨by rfl,?hyk2m4⟩) ?restk2m4
        case hyk2m4=>
         intro w' hSw;obtain⟨hs1,hs2⟩:=hSw;go_simp;with_reducible rfl
        simp only[Act.put,getElem_toArray,getElem_cons_zero,getElem_cons_succ,setIfInBounds_toArray,set_cons_zero,set_cons_succ];refine wpE_one (i:=5) rfl (by kernel_rfl) (fun K1 hK1=>?_);go_simp;go_at_call 76;refine (CX.out _ ST4.out.cur).mono ?_;intro e w5 h5;have hT:=HO.out
        cases X with
        | fail er q=>
         simp only[PR.bind] at hT;have hV:V=.fail er q:=by rw[HV.out,<- hT];try rfl
         subst hV;obtain⟨rfl,q,m5⟩:=h5;exact⟨rfl,rfl,_,(ST4.out.mv.trans H.out m5)⟩
        | ok s1' k1'=>
         obtain⟨v,rfl,⟨A1,n1,c1,rfl,s1⟩,m5⟩:=h5;have hadv:=HSA.out j;have HK1:k1'<=n:=by have:=(hadv _ _ HX.out.symm).2;have:=HL.out;omega
         have HP:Hid (j+1<=k1'):=hid (by have:=(hadv _ _ HX.out.symm).1;omega);have HSK1:skipF L k1'<=n:=by have:=skipF_le (L:=L) (k:=k1') (by have:=HL.out;omega);have:=HL.out;omega
         have HP:=hid (Nat.le_trans HP.out (skipF_ge (L:=L) (k:=k1')));have CS1:=hid (fun W (hW:CurAt W B A n c L k1')=>Skip_any B A n c L k1' W hW);simp only[PR.bind] at hT;obtain⟨⟨so,er⟩,hop⟩:∃ o,unionO s s1'=o:=⟨_,rfl⟩
         rw[hop] at hT;unfold keepF at hT;dsimp only at hT;have HO:=hid hT;clear hT hadv;have ST5:=hid (ST4.out.go H.out m5 HK1);have S1:=hid (ST4.out.fresh s1);clear s1 m5;dsimp only;refine hK1.out _ _ (.inr ⟨ST5.out.val,ST5.out.box⟩) ?_
         try simp only[Act.put,getElem_toArray,getElem_cons_zero,getElem_cons_succ,setIfInBounds_toArray,set_cons_zero,set_cons_succ]
         refine wpE_one (i:=6) rfl (by kernel_rfl) (fun K2 hK2=>?_);go_simp;go_at_call 111;refine (UnionF_any A' n' c' s A1 n1 c1 s1' _ (ST5.out.sp.mono (fun _ _ h=>h) (fun _ _=>trivial)) (S1.out.mono (fun _ _ h=>h) (fun _ _=>trivial))).mono ?_;rintro e w6 ⟨hso,x6⟩;change SetO _ (unionO s s1') w6 e at hso;rw[hop] at hso;obtain⟨A2,c2,rfl,s2⟩:=hso;have ST6:=hid (ST5.out.ext x6);have S2:=hid (ST5.out.fresh s2);clear s2 x6;dsimp only;refine hK2.out _ _ (.inr ⟨ST6.out.val,ST6.out.box⟩) ?_
         try simp only[Act.put,getElem_toArray,getElem_cons_zero,getElem_cons_succ,setIfInBounds_toArray,set_cons_zero,set_cons_succ]
         have hS6:(fun w':World=>w'.cell? ⟨Qb,0,none⟩=some (.slice A' n' c')/\w'.cell? ⟨Tb,0,none⟩=some (.pointer (some ⟨B,0,none⟩))) w6:=⟨ST6.out.val,ST6.out.box⟩
         refine wpE_take [] (i:=7) (v:=?vk2me7) rfl (by kernel_rfl) (by kernel_rfl) (by kernel_rfl) (by kernel_rfl) (by kernel_rfl) (fun _ _ _ h=>h) hS6 (Or.inl ⟨by rfl,?hyk2me7⟩) ?restk2me7
         case hyk2me7=>
          intro w' hSw;obtain⟨hs1,hs2⟩:=hSw;go_simp;with_reducible rfl
         simp only[Act.put,getElem_toArray,getElem_cons_zero,getElem_cons_succ,setIfInBounds_toArray,set_cons_zero,set_cons_succ];refine wpE_take [] (i:=8) (v:=?vk2me8) rfl (by kernel_rfl) (by kernel_rfl) (by kernel_rfl) (by kernel_rfl) (by kernel_rfl) (fun _ _ _ h=>h) hS6 (Or.inl ⟨by rfl,?hyk2me8⟩) ?restk2me8
         case hyk2me8=>
          intro w' hSw;obtain⟨hs1,hs2⟩:=hSw;go_simp;with_reducible rfl
         simp only[Act.put,getElem_toArray,getElem_cons_zero,getElem_cons_succ,setIfInBounds_toArray,set_cons_zero,set_cons_succ];refine wpE_one (i:=9) rfl (by kernel_rfl) (fun K3 hK3=>?_);go_simp;go_at_call 110;have hT:=HO.out;by_cases her:er=0
         ·rw[if_neg (by simp[her])] at hT;simp only[PR.bind] at hT;have HN:=hid hT;have HF:Hid (n<f+skipF L k1'):=hid (by have:=HFJ.out;have:=HP.out;omega);subst her;clear hT hop;refine (keep_ok ST6.out S2.out).mono ?_;rintro e w7 ⟨rfl,st7⟩;have ST7:=hid st7;clear st7 hS hS6;dsimp only;refine hK3.out _ _ (.inl rfl) ?_;refine wpE_done (by kernel_rfl) ?_ _
          try simp only[Act.put,getElem_toArray,getElem_cons_zero,getElem_cons_succ,setIfInBounds_toArray,set_cons_zero,set_cons_succ]
          have t0:=ST7.out.box;have q0:=ST7.out.val;have k1:=ST7.out.cur.c1;have kz:=ST7.out.cur.fz;have kl:=ST7.out.cur.lt
          go_wp2_with (first
           | (go_at_call 74;((with_reducible refine (CS1.out _ ST7.out.cur).mono ?_);rintro e w8 ⟨rfl,m8⟩;have ST8:=hid (ST7.out.go H.out m8 HSK1);have HA8:=hid ST8.out.cur.at_;clear m8)))
          go_roundw;case rel=>exact⟨f,skipF L k1',_,_,_,so,HF,HSK1,HN,ST8⟩
          case measure=>have e1:=HA.out;have e2:=HA8.out;have:=HP.out;rw[e1,e2];omega
         ·rw[if_pos her] at hT;simp only[PR.bind] at hT;have hV:V=.fail er k1':=by rw[HV.out,<- hT];try rfl
          subst hV;refine (keep_bad ST6.out er her _).mono ?_;rintro e w7 ⟨rfl,rfl⟩;exact⟨rfl,rfl,_,ST6.out.mv⟩
      ·have n91:(lookF L j==91)=false:=by simpa using h91
       rw[if_neg (by simp[h91]),if_neg h91] at hO;by_cases h38:lookF L j=38
       ·have hj1:j<n:=by have:=look_lt' h38 (by omega);have:=HL.out;omega
        rw[if_pos h38] at hO;subst hO;rw[h38] at CP n93 n91;have HSK:skipF L (j+1)<=n:=by have:=skipF_le (L:=L) (k:=j+1) (by have:=HL.out;omega);have:=HL.out;omega
        have CS:=hid (fun W (hW:CurAt W B A n c L (j+1))=>Skip_any B A n c L (j+1) W hW);have CX:=hid (fun W (hW:CurAt W B A n c L (skipF L (j+1)))=>IH B A n c L (skipF L (j+1)) W hW);rw[<- HS.out] at CX;clear h91 h38;obtain⟨X,hX⟩:∃ X,X=S (skipF L (j+1)):=⟨_,rfl⟩
        rw[<- hX] at hT CX;have HX:=hid hX;have HO:=hid hT;clear hX hT
        go_wp2_with (first
         | (go_at_call 46;((with_reducible refine (CP.out _ (Ext.refl _)).mono ?_);rintro e w1 ⟨rfl,x1⟩;have X1:=hid x1;have ST1:=hid (ST.out.ext x1);clear t0 q0 k1 kz kl;have t0:=ST1.out.box;have q0:=ST1.out.val;have k1:=ST1.out.cur.c1;have kz:=ST1.out.cur.fz;have kl:=ST1.out.cur.lt;clear x1))
         | (go_at_call 46;((with_reducible refine (CP.out _ X1.out).mono ?_);rintro e w2 ⟨rfl,x2⟩;have X2:=hid (X1.out.trans x2);have ST2:=hid (ST1.out.ext x2);have ST2s:=hid (ST2.out.go H.out ((Mv.refl ST2.out.cur).setX ST2.out.cur (x:=(j:Int)+1) (i:=j+1) (by omega)) (by omega));clear t0 q0 k1 kz kl;have t0:=ST2.out.box;have q0:=ST2.out.val;have k1:=ST2.out.cur.c1;have kz:=ST2.out.cur.fz;have kl:=ST2.out.cur.lt;have tt:=ST2s.out.box;clear x2))
         | (go_at_call 74;((with_reducible refine (CS.out _ ST2s.out.cur).mono ?_);rintro e w3 ⟨rfl,m3⟩;have ST3:=hid (ST2s.out.go H.out m3 HSK);clear t0 q0 k1 kz kl;clear tt;have t0:=ST3.out.box;have q0:=ST3.out.val;have k1:=ST3.out.cur.c1;have kz:=ST3.out.cur.fz;have kl:=ST3.out.cur.lt;clear m3)))
        have ST4:=hid (ST3.out.ext (Ext.refl _).drew);refine wp_region_E (fun w'=>w'.cell? ⟨Qb,0,none⟩=some (.slice A' n' c')/\w'.cell? ⟨Tb,0,none⟩=some (.pointer (some ⟨B,0,none⟩))) 9 (by kernel_rfl) ?_;have hS:(fun w':World=>w'.cell? ⟨Qb,0,none⟩=some (.slice A' n' c')/\w'.cell? ⟨Tb,0,none⟩=some (.pointer (some ⟨B,0,none⟩))) _:=⟨ST4.out.val,ST4.out.box⟩
        clear t0 q0 k1 kz kl;refine wpE_take [] (i:=0) (v:=?vk3m0) rfl (by kernel_rfl) (by kernel_rfl) (by kernel_rfl) (by kernel_rfl) (by kernel_rfl) (fun _ _ _ h=>h) hS (Or.inl ⟨by rfl,?hyk3m0⟩) ?restk3m0
        case hyk3m0=>
         intro w' hSw;obtain⟨hs1,hs2⟩:=hSw;go_simp;with_reducible rfl
        simp only[Act.put,getElem_toArray,getElem_cons_zero,getElem_cons_succ,setIfInBounds_toArray,set_cons_zero,set_cons_succ];refine wpE_take [7,6] (i:=1) (v:=?vk3m1) rfl (by kernel_rfl) (by kernel_rfl) (by kernel_rfl) (by kernel_rfl) (by kernel_rfl) (fun _ _ _ h=>h) hS (Or.inl ⟨by rfl,?hyk3m1⟩) ?restk3m1
        case hyk3m1=>
         intro w' hSw;obtain⟨hs1,hs2⟩:=hSw;go_simp;with_reducible rfl
        simp only[Act.put,getElem_toArray,getElem_cons_zero,getElem_cons_succ,setIfInBounds_toArray,set_cons_zero,set_cons_succ];refine wpE_take [7,6,5] (i:=2) (v:=?vk3m2) rfl (by kernel_rfl) (by kernel_rfl) (by kernel_rfl) (by kernel_rfl) (by kernel_rfl) (fun _ _ _ h=>h) hS (Or.inl ⟨by rfl,?hyk3m2⟩) ?restk3m2
        case hyk3m2=>
         intro w' hSw;obtain⟨hs1,hs2⟩:=hSw;go_simp;with_reducible rfl
        simp only[Act.put,getElem_toArray,getElem_cons_zero,getElem_cons_succ,setIfInBounds_toArray,set_cons_zero,set_cons_succ];refine wpE_take [7,6,5,4] (i:=3) (v:=?vk3m3) rfl (by kernel_rfl) (by kernel_rfl) (by kernel_rfl) (by kernel_rfl) (by kernel_rfl) (fun _ _ _ h=>h) hS (Or.inl ⟨by rfl,?hyk3m3⟩) ?restk3m3
        case hyk3m3=>
         intro w' hSw;obtain⟨hs1,hs2⟩:=hSw;go_simp;with_reducible rfl
        simp only[Act.put,getElem_toArray,getElem_cons_zero,getElem_cons_succ,setIfInBounds_toArray,set_cons_zero,set_cons_succ];refine wpE_take [7,6,5] (i:=4) (v:=?vk3m4) rfl (by kernel_rfl) (by kernel_rfl) (by kernel_rfl) (by kernel_rfl) (by kernel_rfl) (fun _ _ _ h=>h) hS (Or.inl ⟨by rfl,?hyk3m4⟩) ?restk3m4
        case hyk3m4=>
         intro w' hSw;obtain⟨hs1,hs2⟩:=hSw;go_simp;with_reducible rfl
        simp only[Act.put,getElem_toArray,getElem_cons_zero,getElem_cons_succ,setIfInBounds_toArray,set_cons_zero,set_cons_succ];refine wpE_one (i:=5) rfl (by kernel_rfl) (fun K1 hK1=>?_);go_simp;go_at_call 76;refine (CX.out _ ST4.out.cur).mono ?_;intro e w5 h5;have hT:=HO.out
        cases X with
        | fail er q=>
         simp only[PR.bind] at hT;have hV:V=.fail er q:=by rw[HV.out,<- hT];try rfl
         subst hV;obtain⟨rfl,q,m5⟩:=h5;exact⟨rfl,rfl,_,(ST4.out.mv.trans H.out m5)⟩
        | ok s1' k1'=>
         obtain⟨v,rfl,⟨A1,n1,c1,rfl,s1⟩,m5⟩:=h5;have hadv:=(HSA.out (skipF L (j+1))).le (k':=j) (m':=1) (by have:=skipF_ge (L:=L) (k:=j+1);omega);have HK1:k1'<=n:=by have:=(hadv _ _ HX.out.symm).2;have:=HL.out;omega
         have HP:Hid (j+1<=k1'):=hid (by have:=(hadv _ _ HX.out.symm).1;omega);have HSK1:skipF L k1'<=n:=by have:=skipF_le (L:=L) (k:=k1') (by have:=HL.out;omega);have:=HL.out;omega
         have HP:=hid (Nat.le_trans HP.out (skipF_ge (L:=L) (k:=k1')));have CS1:=hid (fun W (hW:CurAt W B A n c L k1')=>Skip_any B A n c L k1' W hW);simp only[PR.bind] at hT;obtain⟨⟨so,er⟩,hop⟩:∃ o,meetO s s1'=o:=⟨_,rfl⟩
         rw[hop] at hT;unfold keepF at hT;dsimp only at hT;have HO:=hid hT;clear hT hadv;have ST5:=hid (ST4.out.go H.out m5 HK1);have S1:=hid (ST4.out.fresh s1);clear s1 m5;dsimp only;refine hK1.out _ _ (.inr ⟨ST5.out.val,ST5.out.box⟩) ?_
         try simp only[Act.put,getElem_toArray,getElem_cons_zero,getElem_cons_succ,setIfInBounds_toArray,set_cons_zero,set_cons_succ]
         refine wpE_one (i:=6) rfl (by kernel_rfl) (fun K2 hK2=>?_);go_simp;go_at_call 113;refine (MeetF_any A' n' c' s A1 n1 c1 s1' _ (ST5.out.sp.mono (fun _ _ h=>h) (fun _ _=>trivial)) (S1.out.mono (fun _ _ h=>h) (fun _ _=>trivial))).mono ?_;rintro e w6 ⟨hso,x6⟩;change SetO _ (meetO s s1') w6 e at hso;rw[hop] at hso;obtain⟨A2,c2,rfl,s2⟩:=hso;have ST6:=hid (ST5.out.ext x6);have S2:=hid (ST5.out.fresh s2);clear s2 x6;dsimp only;refine hK2.out _ _ (.inr ⟨ST6.out.val,ST6.out.box⟩) ?_
         try simp only[Act.put,getElem_toArray,getElem_cons_zero,getElem_cons_succ,setIfInBounds_toArray,set_cons_zero,set_cons_succ]
         have hS6:(fun w':World=>w'.cell? ⟨Qb,0,none⟩=some (.slice A' n' c')/\w'.cell? ⟨Tb,0,none⟩=some (.pointer (some ⟨B,0,none⟩))) w6:=⟨ST6.out.val,ST6.out.box⟩
         refine wpE_take [] (i:=7) (v:=?vk3me7) rfl (by kernel_rfl) (by kernel_rfl) (by kernel_rfl) (by kernel_rfl) (by kernel_rfl) (fun _ _ _ h=>h) hS6 (Or.inl ⟨by rfl,?hyk3me7⟩) ?restk3me7
         case hyk3me7=>
          intro w' hSw;obtain⟨hs1,hs2⟩:=hSw;go_simp;with_reducible rfl
         simp only[Act.put,getElem_toArray,getElem_cons_zero,getElem_cons_succ,setIfInBounds_toArray,set_cons_zero,set_cons_succ];refine wpE_take [] (i:=8) (v:=?vk3me8) rfl (by kernel_rfl) (by kernel_rfl) (by kernel_rfl) (by kernel_rfl) (by kernel_rfl) (fun _ _ _ h=>h) hS6 (Or.inl ⟨by rfl,?hyk3me8⟩) ?restk3me8
         case hyk3me8=>
          intro w' hSw;obtain⟨hs1,hs2⟩:=hSw;go_simp;with_reducible rfl
         simp only[Act.put,getElem_toArray,getElem_cons_zero,getElem_cons_succ,setIfInBounds_toArray,set_cons_zero,set_cons_succ];refine wpE_one (i:=9) rfl (by kernel_rfl) (fun K3 hK3=>?_);go_simp;go_at_call 110;have hT:=HO.out;by_cases her:er=0
         ·rw[if_neg (by simp[her])] at hT;simp only[PR.bind] at hT;have HN:=hid hT;have HF:Hid (n<f+skipF L k1'):=hid (by have:=HFJ.out;have:=HP.out;omega);subst her;clear hT hop;refine (keep_ok ST6.out S2.out).mono ?_;rintro e w7 ⟨rfl,st7⟩;have ST7:=hid st7;clear st7 hS hS6;dsimp only;refine hK3.out _ _ (.inl rfl) ?_;refine wpE_done (by kernel_rfl) ?_ _
          try simp only[Act.put,getElem_toArray,getElem_cons_zero,getElem_cons_succ,setIfInBounds_toArray,set_cons_zero,set_cons_succ]
          have t0:=ST7.out.box;have q0:=ST7.out.val;have k1:=ST7.out.cur.c1;have kz:=ST7.out.cur.fz;have kl:=ST7.out.cur.lt
          go_wp2_with (first
           | (go_at_call 74;((with_reducible refine (CS1.out _ ST7.out.cur).mono ?_);rintro e w8 ⟨rfl,m8⟩;have ST8:=hid (ST7.out.go H.out m8 HSK1);have HA8:=hid ST8.out.cur.at_;clear m8)))
          go_roundw;case rel=>exact⟨f,skipF L k1',_,_,_,so,HF,HSK1,HN,ST8⟩
          case measure=>have e1:=HA.out;have e2:=HA8.out;have:=HP.out;rw[e1,e2];omega
         ·rw[if_pos her] at hT;simp only[PR.bind] at hT;have hV:V=.fail er k1':=by rw[HV.out,<- hT];try rfl
          subst hV;refine (keep_bad ST6.out er her _).mono ?_;rintro e w7 ⟨rfl,rfl⟩;exact⟨rfl,rfl,_,ST6.out.mv⟩
       ·rw[if_neg h38] at hO;have n38:(lookF L j==38)=false:=by simpa using h38
        by_cases h45:lookF L j=45
        ·have hj1:j<n:=by have:=look_lt' h45 (by omega);have:=HL.out;omega
         rw[if_pos h45] at hO;subst hO;rw[h45] at CP n93 n91 n38;have HSK:skipF L (j+1)<=n:=by have:=skipF_le (L:=L) (k:=j+1) (by have:=HL.out;omega);have:=HL.out;omega
         have CS:=hid (fun W (hW:CurAt W B A n c L (j+1))=>Skip_any B A n c L (j+1) W hW);have CX:=hid (fun W (hW:CurAt W B A n c L (skipF L (j+1)))=>IH B A n c L (skipF L (j+1)) W hW);rw[<- HS.out] at CX;clear h91 h38 h45;obtain⟨X,hX⟩:∃ X,X=S (skipF L (j+1)):=⟨_,rfl⟩
         rw[<- hX] at hT CX;have HX:=hid hX;have HO:=hid hT;clear hX hT
         go_wp2_with (first
          | (go_at_call 46;((with_reducible refine (CP.out _ (Ext.refl _)).mono ?_);rintro e w1 ⟨rfl,x1⟩;have X1:=hid x1;have ST1:=hid (ST.out.ext x1);clear t0 q0 k1 kz kl;have t0:=ST1.out.box;have q0:=ST1.out.val;have k1:=ST1.out.cur.c1;have kz:=ST1.out.cur.fz;have kl:=ST1.out.cur.lt;clear x1))
          | (go_at_call 46;((with_reducible refine (CP.out _ X1.out).mono ?_);rintro e w2 ⟨rfl,x2⟩;have X2:=hid (X1.out.trans x2);have ST2:=hid (ST1.out.ext x2);have ST2s:=hid (ST2.out.go H.out ((Mv.refl ST2.out.cur).setX ST2.out.cur (x:=(j:Int)+1) (i:=j+1) (by omega)) (by omega));clear t0 q0 k1 kz kl;have t0:=ST2.out.box;have q0:=ST2.out.val;have k1:=ST2.out.cur.c1;have kz:=ST2.out.cur.fz;have kl:=ST2.out.cur.lt;have tt:=ST2s.out.box;clear x2))
          | (go_at_call 74;((with_reducible refine (CS.out _ ST2s.out.cur).mono ?_);rintro e w3 ⟨rfl,m3⟩;have ST3:=hid (ST2s.out.go H.out m3 HSK);clear t0 q0 k1 kz kl;clear tt;have t0:=ST3.out.box;have q0:=ST3.out.val;have k1:=ST3.out.cur.c1;have kz:=ST3.out.cur.fz;have kl:=ST3.out.cur.lt;clear m3)))
         have ST4:=hid (ST3.out.ext (Ext.refl _).drew);refine wp_region_E (fun w'=>w'.cell? ⟨Qb,0,none⟩=some (.slice A' n' c')/\w'.cell? ⟨Tb,0,none⟩=some (.pointer (some ⟨B,0,none⟩))) 9 (by kernel_rfl) ?_;have hS:(fun w':World=>w'.cell? ⟨Qb,0,none⟩=some (.slice A' n' c')/\w'.cell? ⟨Tb,0,none⟩=some (.pointer (some ⟨B,0,none⟩))) _:=⟨ST4.out.val,ST4.out.box⟩
         clear t0 q0 k1 kz kl;refine wpE_take [] (i:=0) (v:=?vk4m0) rfl (by kernel_rfl) (by kernel_rfl) (by kernel_rfl) (by kernel_rfl) (by kernel_rfl) (fun _ _ _ h=>h) hS (Or.inl ⟨by rfl,?hyk4m0⟩) ?restk4m0
         case hyk4m0=>
          intro w' hSw;obtain⟨hs1,hs2⟩:=hSw;go_simp;with_reducible rfl
         simp only[Act.put,getElem_toArray,getElem_cons_zero,getElem_cons_succ,setIfInBounds_toArray,set_cons_zero,set_cons_succ];refine wpE_take [7,6] (i:=1) (v:=?vk4m1) rfl (by kernel_rfl) (by kernel_rfl) (by kernel_rfl) (by kernel_rfl) (by kernel_rfl) (fun _ _ _ h=>h) hS (Or.inl ⟨by rfl,?hyk4m1⟩) ?restk4m1
         case hyk4m1=>
          intro w' hSw;obtain⟨hs1,hs2⟩:=hSw;go_simp;with_reducible rfl
         simp only[Act.put,getElem_toArray,getElem_cons_zero,getElem_cons_succ,setIfInBounds_toArray,set_cons_zero,set_cons_succ];refine wpE_take [7,6,5] (i:=2) (v:=?vk4m2) rfl (by kernel_rfl) (by kernel_rfl) (by kernel_rfl) (by kernel_rfl) (by kernel_rfl) (fun _ _ _ h=>h) hS (Or.inl ⟨by rfl,?hyk4m2⟩) ?restk4m2
         case hyk4m2=>
          intro w' hSw;obtain⟨hs1,hs2⟩:=hSw;go_simp;with_reducible rfl
         simp only[Act.put,getElem_toArray,getElem_cons_zero,getElem_cons_succ,setIfInBounds_toArray,set_cons_zero,set_cons_succ];refine wpE_take [7,6,5,4] (i:=3) (v:=?vk4m3) rfl (by kernel_rfl) (by kernel_rfl) (by kernel_rfl) (by kernel_rfl) (by kernel_rfl) (fun _ _ _ h=>h) hS (Or.inl ⟨by rfl,?hyk4m3⟩) ?restk4m3
         case hyk4m3=>
          intro w' hSw;obtain⟨hs1,hs2⟩:=hSw;go_simp;with_reducible rfl
         simp only[Act.put,getElem_toArray,getElem_cons_zero,getElem_cons_succ,setIfInBounds_toArray,set_cons_zero,set_cons_succ];refine wpE_take [7,6,5] (i:=4) (v:=?vk4m4) rfl (by kernel_rfl) (by kernel_rfl) (by kernel_rfl) (by kernel_rfl) (by kernel_rfl) (fun _ _ _ h=>h) hS (Or.inl ⟨by rfl,?hyk4m4⟩) ?restk4m4
         case hyk4m4=>
          intro w' hSw;obtain⟨hs1,hs2⟩:=hSw;go_simp;with_reducible rfl
         simp only[Act.put,getElem_toArray,getElem_cons_zero,getElem_cons_succ,setIfInBounds_toArray,set_cons_zero,set_cons_succ];refine wpE_one (i:=5) rfl (by kernel_rfl) (fun K1 hK1=>?_);go_simp;go_at_call 76;refine (CX.out _ ST4.out.cur).mono ?_;intro e w5 h5;have hT:=HO.out
         cases X with
         | fail er q=>
          simp only[PR.bind] at hT;have hV:V=.fail er q:=by rw[HV.out,<- hT];try rfl
          subst hV;obtain⟨rfl,q,m5⟩:=h5;exact⟨rfl,rfl,_,(ST4.out.mv.trans H.out m5)⟩
         | ok s1' k1'=>
          obtain⟨v,rfl,⟨A1,n1,c1,rfl,s1⟩,m5⟩:=h5;have hadv:=(HSA.out (skipF L (j+1))).le (k':=j) (m':=1) (by have:=skipF_ge (L:=L) (k:=j+1);omega);have HK1:k1'<=n:=by have:=(hadv _ _ HX.out.symm).2;have:=HL.out;omega
          have HP:Hid (j+1<=k1'):=hid (by have:=(hadv _ _ HX.out.symm).1;omega);have HSK1:skipF L k1'<=n:=by have:=skipF_le (L:=L) (k:=k1') (by have:=HL.out;omega);have:=HL.out;omega
          have HP:=hid (Nat.le_trans HP.out (skipF_ge (L:=L) (k:=k1')));have CS1:=hid (fun W (hW:CurAt W B A n c L k1')=>Skip_any B A n c L k1' W hW);simp only[PR.bind] at hT;obtain⟨⟨so,er⟩,hop⟩:∃ o,minusO s s1'=o:=⟨_,rfl⟩
          rw[hop] at hT;unfold keepF at hT;dsimp only at hT;have HO:=hid hT;clear hT hadv;have ST5:=hid (ST4.out.go H.out m5 HK1);have S1:=hid (ST4.out.fresh s1);clear s1 m5;dsimp only;refine hK1.out _ _ (.inr ⟨ST5.out.val,ST5.out.box⟩) ?_
          try simp only[Act.put,getElem_toArray,getElem_cons_zero,getElem_cons_succ,setIfInBounds_toArray,set_cons_zero,set_cons_succ]
          refine wpE_one (i:=6) rfl (by kernel_rfl) (fun K2 hK2=>?_);go_simp;go_at_call 114;refine (MinusF_any A' n' c' s A1 n1 c1 s1' _ (ST5.out.sp.mono (fun _ _ h=>h) (fun _ _=>trivial)) (S1.out.mono (fun _ _ h=>h) (fun _ _=>trivial))).mono ?_;rintro e w6 ⟨hso,x6⟩;change SetO _ (minusO s s1') w6 e at hso;rw[hop] at hso;obtain⟨A2,c2,rfl,s2⟩:=hso;have ST6:=hid (ST5.out.ext x6);have S2:=hid (ST5.out.fresh s2);clear s2 x6;dsimp only;refine hK2.out _ _ (.inr ⟨ST6.out.val,ST6.out.box⟩) ?_
          try simp only[Act.put,getElem_toArray,getElem_cons_zero,getElem_cons_succ,setIfInBounds_toArray,set_cons_zero,set_cons_succ]
          have hS6:(fun w':World=>w'.cell? ⟨Qb,0,none⟩=some (.slice A' n' c')/\w'.cell? ⟨Tb,0,none⟩=some (.pointer (some ⟨B,0,none⟩))) w6:=⟨ST6.out.val,ST6.out.box⟩
          refine wpE_take [] (i:=7) (v:=?vk4me7) rfl (by kernel_rfl) (by kernel_rfl) (by kernel_rfl) (by kernel_rfl) (by kernel_rfl) (fun _ _ _ h=>h) hS6 (Or.inl ⟨by rfl,?hyk4me7⟩) ?restk4me7
          case hyk4me7=>
           intro w' hSw;obtain⟨hs1,hs2⟩:=hSw;go_simp;with_reducible rfl
          simp only[Act.put,getElem_toArray,getElem_cons_zero,getElem_cons_succ,setIfInBounds_toArray,set_cons_zero,set_cons_succ];refine wpE_take [] (i:=8) (v:=?vk4me8) rfl (by kernel_rfl) (by kernel_rfl) (by kernel_rfl) (by kernel_rfl) (by kernel_rfl) (fun _ _ _ h=>h) hS6 (Or.inl ⟨by rfl,?hyk4me8⟩) ?restk4me8
          case hyk4me8=>
           intro w' hSw;obtain⟨hs1,hs2⟩:=hSw;go_simp;with_reducible rfl
          simp only[Act.put,getElem_toArray,getElem_cons_zero,getElem_cons_succ,setIfInBounds_toArray,set_cons_zero,set_cons_succ];refine wpE_one (i:=9) rfl (by kernel_rfl) (fun K3 hK3=>?_);go_simp;go_at_call 110;have hT:=HO.out;by_cases her:er=0
          ·rw[if_neg (by simp[her])] at hT;simp only[PR.bind] at hT;have HN:=hid hT;have HF:Hid (n<f+skipF L k1'):=hid (by have:=HFJ.out;have:=HP.out;omega);subst her;clear hT hop;refine (keep_ok ST6.out S2.out).mono ?_;rintro e w7 ⟨rfl,st7⟩;have ST7:=hid st7;clear st7 hS hS6;dsimp only;refine hK3.out _ _ (.inl rfl) ?_;refine wpE_done (by kernel_rfl) ?_ _
           try simp only[Act.put,getElem_toArray,getElem_cons_zero,getElem_cons_succ,setIfInBounds_toArray,set_cons_zero,set_cons_succ]
           have t0:=ST7.out.box;have q0:=ST7.out.val;have k1:=ST7.out.cur.c1;have kz:=ST7.out.cur.fz;have kl:=ST7.out.cur.lt
           go_wp2_with (first
            | (go_at_call 74;((with_reducible refine (CS1.out _ ST7.out.cur).mono ?_);rintro e w8 ⟨rfl,m8⟩;have ST8:=hid (ST7.out.go H.out m8 HSK1);have HA8:=hid ST8.out.cur.at_;clear m8)))
           go_roundw;case rel=>exact⟨f,skipF L k1',_,_,_,so,HF,HSK1,HN,ST8⟩
           case measure=>have e1:=HA.out;have e2:=HA8.out;have:=HP.out;rw[e1,e2];omega
          ·rw[if_pos her] at hT;simp only[PR.bind] at hT;have hV:V=.fail er k1':=by rw[HV.out,<- hT];try rfl
           subst hV;refine (keep_bad ST6.out er her _).mono ?_;rintro e w7 ⟨rfl,rfl⟩;exact⟨rfl,rfl,_,ST6.out.mv⟩
        ·rw[if_neg h45] at hO;have n45:(lookF L j==45)=false:=by simpa using h45
         subst hO;have CX:=hid (fun W (hW:CurAt W B A n c L j)=>spanC_any B A n c L j W hW);generalize lookF L j=r1 at CP n93 n91 n38 n45;clear h91 h38 h45;obtain⟨X,hX⟩:∃ X,X=spanF L j:=⟨_,rfl⟩
         rw[<- hX] at hT CX;have HX:=hid hX;have HO:=hid hT;clear hX hT
         go_wp2_with (first
          | (go_at_call 46;((with_reducible refine (CP.out _ (Ext.refl _)).mono ?_);rintro e w1 ⟨rfl,x1⟩;have X1:=hid x1;have ST1:=hid (ST.out.ext x1);clear t0 q0 k1 kz kl;have t0:=ST1.out.box;have q0:=ST1.out.val;have k1:=ST1.out.cur.c1;have kz:=ST1.out.cur.fz;have kl:=ST1.out.cur.lt;clear x1))
          | (go_at_call 46;((with_reducible refine (CP.out _ X1.out).mono ?_);rintro e w2 ⟨rfl,x2⟩;have X2:=hid (X1.out.trans x2);have ST2:=hid (ST1.out.ext x2);clear t0 q0 k1 kz kl;have t0:=ST2.out.box;have q0:=ST2.out.val;have k1:=ST2.out.cur.c1;have kz:=ST2.out.cur.fz;have kl:=ST2.out.cur.lt;clear x2)))
         have ST4:=hid (ST2.out.ext (Ext.refl _).drew);refine wp_region_E (fun w'=>w'.cell? ⟨Qb,0,none⟩=some (.slice A' n' c')/\w'.cell? ⟨Tb,0,none⟩=some (.pointer (some ⟨B,0,none⟩))) 7 (by kernel_rfl) ?_;have hS:(fun w':World=>w'.cell? ⟨Qb,0,none⟩=some (.slice A' n' c')/\w'.cell? ⟨Tb,0,none⟩=some (.pointer (some ⟨B,0,none⟩))) _:=⟨ST4.out.val,ST4.out.box⟩
         clear t0 q0 k1 kz kl;refine wpE_take [] (i:=0) (v:=?vk5m0) rfl (by kernel_rfl) (by kernel_rfl) (by kernel_rfl) (by kernel_rfl) (by kernel_rfl) (fun _ _ _ h=>h) hS (Or.inl ⟨by rfl,?hyk5m0⟩) ?restk5m0
         case hyk5m0=>
          intro w' hSw;obtain⟨hs1,hs2⟩:=hSw;go_simp;with_reducible rfl
         simp only[Act.put,getElem_toArray,getElem_cons_zero,getElem_cons_succ,setIfInBounds_toArray,set_cons_zero,set_cons_succ];refine wpE_take [5,4] (i:=1) (v:=?vk5m1) rfl (by kernel_rfl) (by kernel_rfl) (by kernel_rfl) (by kernel_rfl) (by kernel_rfl) (fun _ _ _ h=>h) hS (Or.inl ⟨by rfl,?hyk5m1⟩) ?restk5m1
         case hyk5m1=>
          intro w' hSw;obtain⟨hs1,hs2⟩:=hSw;go_simp;with_reducible rfl
         simp only[Act.put,getElem_toArray,getElem_cons_zero,getElem_cons_succ,setIfInBounds_toArray,set_cons_zero,set_cons_succ];refine wpE_take [5,4,3] (i:=2) (v:=?vk5m2) rfl (by kernel_rfl) (by kernel_rfl) (by kernel_rfl) (by kernel_rfl) (by kernel_rfl) (fun _ _ _ h=>h) hS (Or.inl ⟨by rfl,?hyk5m2⟩) ?restk5m2
         case hyk5m2=>
          intro w' hSw;obtain⟨hs1,hs2⟩:=hSw;go_simp;with_reducible rfl
         simp only[Act.put,getElem_toArray,getElem_cons_zero,getElem_cons_succ,setIfInBounds_toArray,set_cons_zero,set_cons_succ];refine wpE_one (i:=3) rfl (by kernel_rfl) (fun K1 hK1=>?_);go_simp;go_at_call 115;refine (CX.out _ ST4.out.cur).mono ?_;intro e w5 h5;have hT:=HO.out
         cases X with
         | fail er q=>
          simp only[PR.bind] at hT;have hV:V=.fail er q:=by rw[HV.out,<- hT];try rfl
          subst hV;obtain⟨rfl,q,m5⟩:=h5;exact⟨rfl,rfl,_,(ST4.out.mv.trans H.out m5)⟩
         | ok s1' k1'=>
          obtain⟨v,rfl,⟨A1,n1,c1,rfl,s1⟩,m5⟩:=h5;have hadv:=spanF_adv (L:=L) (k:=j);have HK1:k1'<=n:=by have:=(hadv _ _ HX.out.symm).2;have:=HL.out;omega
          have HP:Hid (j+1<=k1'):=hid (by have:=(hadv _ _ HX.out.symm).1;omega);have HSK1:skipF L k1'<=n:=by have:=skipF_le (L:=L) (k:=k1') (by have:=HL.out;omega);have:=HL.out;omega
          have HP:=hid (Nat.le_trans HP.out (skipF_ge (L:=L) (k:=k1')));have CS1:=hid (fun W (hW:CurAt W B A n c L k1')=>Skip_any B A n c L k1' W hW);simp only[PR.bind] at hT;obtain⟨⟨so,er⟩,hop⟩:∃ o,unionO s s1'=o:=⟨_,rfl⟩
          rw[hop] at hT;unfold keepF at hT;dsimp only at hT;have HO:=hid hT;clear hT hadv;have ST5:=hid (ST4.out.go H.out m5 HK1);have S1:=hid (ST4.out.fresh s1);clear s1 m5;dsimp only;refine hK1.out _ _ (.inr ⟨ST5.out.val,ST5.out.box⟩) ?_
          try simp only[Act.put,getElem_toArray,getElem_cons_zero,getElem_cons_succ,setIfInBounds_toArray,set_cons_zero,set_cons_succ]
          refine wpE_one (i:=4) rfl (by kernel_rfl) (fun K2 hK2=>?_);go_simp;go_at_call 111;refine (UnionF_any A' n' c' s A1 n1 c1 s1' _ (ST5.out.sp.mono (fun _ _ h=>h) (fun _ _=>trivial)) (S1.out.mono (fun _ _ h=>h) (fun _ _=>trivial))).mono ?_;rintro e w6 ⟨hso,x6⟩;change SetO _ (unionO s s1') w6 e at hso;rw[hop] at hso;obtain⟨A2,c2,rfl,s2⟩:=hso;have ST6:=hid (ST5.out.ext x6);have S2:=hid (ST5.out.fresh s2);clear s2 x6;dsimp only;refine hK2.out _ _ (.inr ⟨ST6.out.val,ST6.out.box⟩) ?_
          try simp only[Act.put,getElem_toArray,getElem_cons_zero,getElem_cons_succ,setIfInBounds_toArray,set_cons_zero,set_cons_succ]
          have hS6:(fun w':World=>w'.cell? ⟨Qb,0,none⟩=some (.slice A' n' c')/\w'.cell? ⟨Tb,0,none⟩=some (.pointer (some ⟨B,0,none⟩))) w6:=⟨ST6.out.val,ST6.out.box⟩
          refine wpE_take [] (i:=5) (v:=?vk5me5) rfl (by kernel_rfl) (by kernel_rfl) (by kernel_rfl) (by kernel_rfl) (by kernel_rfl) (fun _ _ _ h=>h) hS6 (Or.inl ⟨by rfl,?hyk5me5⟩) ?restk5me5
          case hyk5me5=>
           intro w' hSw;obtain⟨hs1,hs2⟩:=hSw;go_simp;with_reducible rfl
          simp only[Act.put,getElem_toArray,getElem_cons_zero,getElem_cons_succ,setIfInBounds_toArray,set_cons_zero,set_cons_succ];refine wpE_take [] (i:=6) (v:=?vk5me6) rfl (by kernel_rfl) (by kernel_rfl) (by kernel_rfl) (by kernel_rfl) (by kernel_rfl) (fun _ _ _ h=>h) hS6 (Or.inl ⟨by rfl,?hyk5me6⟩) ?restk5me6
          case hyk5me6=>
           intro w' hSw;obtain⟨hs1,hs2⟩:=hSw;go_simp;with_reducible rfl
          simp only[Act.put,getElem_toArray,getElem_cons_zero,getElem_cons_succ,setIfInBounds_toArray,set_cons_zero,set_cons_succ];refine wpE_one (i:=7) rfl (by kernel_rfl) (fun K3 hK3=>?_);go_simp;go_at_call 110;have hT:=HO.out;by_cases her:er=0
          ·rw[if_neg (by simp[her])] at hT;simp only[PR.bind] at hT;have HN:=hid hT;have HF:Hid (n<f+skipF L k1'):=hid (by have:=HFJ.out;have:=HP.out;omega);subst her;clear hT hop;refine (keep_ok ST6.out S2.out).mono ?_;rintro e w7 ⟨rfl,st7⟩;have ST7:=hid st7;clear st7 hS hS6;dsimp only;refine hK3.out _ _ (.inl rfl) ?_;refine wpE_done (by kernel_rfl) ?_ _
           try simp only[Act.put,getElem_toArray,getElem_cons_zero,getElem_cons_succ,setIfInBounds_toArray,set_cons_zero,set_cons_succ]
           have t0:=ST7.out.box;have q0:=ST7.out.val;have k1:=ST7.out.cur.c1;have kz:=ST7.out.cur.fz;have kl:=ST7.out.cur.lt
           go_wp2_with (first
            | (go_at_call 74;((with_reducible refine (CS1.out _ ST7.out.cur).mono ?_);rintro e w8 ⟨rfl,m8⟩;have ST8:=hid (ST7.out.go H.out m8 HSK1);have HA8:=hid ST8.out.cur.at_;clear m8)))
           go_roundw;case rel=>exact⟨f,skipF L k1',_,_,_,so,HF,HSK1,HN,ST8⟩
           case measure=>have e1:=HA.out;have e2:=HA8.out;have:=HP.out;rw[e1,e2];omega
          ·rw[if_pos her] at hT;simp only[PR.bind] at hT;have hV:V=.fail er k1':=by rw[HV.out,<- hT];try rfl
           subst hV;refine (keep_bad ST6.out er her _).mono ?_;rintro e w7 ⟨rfl,rfl⟩;exact⟨rfl,rfl,_,ST6.out.mv⟩
  ·rw[if_pos (by simpa using h91)] at hV;subst hV;have hN:needF L 91 k=.fail 2 k:=by unfold needF;rw[if_neg h91]
   rw[hN] at CN;clear h91 h hN;go_enter Tryz.func76,Tryz.ntmps76
   go_wp2_with (first
    | (go_at_call 48;((with_reducible refine (CN.out _ e1).mono ?_);rintro e w2 ⟨rfl,q,m2⟩;have M2:=hid ((Mv.of H.out e1).trans H.out m2);clear m2)))
   exact⟨rfl,rfl,_,M2.out⟩
end Go.Proofs.YthomjcjnalfipaaGreatDoor
