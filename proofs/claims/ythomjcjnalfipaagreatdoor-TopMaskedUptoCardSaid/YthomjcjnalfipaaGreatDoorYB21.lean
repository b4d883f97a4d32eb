/- A part of the proofs of the Top laws. -/
import Derived.Test.YthomjcjnalfipaaGreatDoorRows
import Derived.ProofKit
import Derived.OpenShut
import Derived.ChangeOld
import Derived.Deep.Fields
import Derived.Test.YthomjcjnalfipaaGreatDoorYB20
set_option linter.all false
set_option maxRecDepth 100000
set_option maxHeartbeats 16000000
open Go.Lib (hid)
namespace Go.Proofs.YthomjcjnalfipaaGreatDoor
open Go.RowKit
structure SdBox (W:World) (b:Nat) (st en:Bool) (A1:Option Addr) (n1 c1:Nat) (A2:Option Addr) (n2 c2:Nat) (A3:Option Addr) (n3 c3:Nat) (q:Int):Prop where
 h0:W.cell? ⟨b,0,none⟩=some (.bool st)
 h1:W.cell? ⟨b,1,none⟩=some (.bool en)
 h2:W.cell? ⟨b,2,none⟩=some (.slice A1 n1 c1)
 h3:W.cell? ⟨b,3,none⟩=some (.slice A2 n2 c2)
 h4:W.cell? ⟨b,4,none⟩=some (.slice A3 n3 c3)
 h5:W.cell? ⟨b,5,none⟩=some (.int .i64 q)
 fz:∀ i,W.frozen? ⟨b,i,none⟩=false
 lt:b<W.heap.size/\b≠W.heap.size
section
variable {W W' w : World} {b B b' : Nat} {st en : Bool} {A1 : Option Addr} {n1 c1 : Nat} {A2 : Option Addr} {n2 c2 : Nat} {A3 : Option Addr} {n3 c3 : Nat} {q : Int}
theorem SdBox.keep (h:SdBox W b st en A1 n1 c1 A2 n2 c2 A3 n3 c3 q) (hb:W'.heap[b]? =W.heap[b]?) (hs:W.heap.size<=W'.heap.size):SdBox W' b st en A1 n1 c1 A2 n2 c2 A3 n3 c3 q:=
 ⟨(World.cell?_of_block hb).trans h.h0,(World.cell?_of_block hb).trans h.h1,(World.cell?_of_block hb).trans h.h2,(World.cell?_of_block hb).trans h.h3,(World.cell?_of_block hb).trans h.h4,(World.cell?_of_block hb).trans h.h5,fun i=>by have:=h.fz i;simp only[World.frozen?] at this ⊢;rw[hb];exact this,by have:=h.lt;omega⟩
theorem SdBox.ext (h:SdBox W b st en A1 n1 c1 A2 n2 c2 A3 n3 c3 q) (e:Ext W W'):SdBox W' b st en A1 n1 c1 A2 n2 c2 A3 n3 c3 q:=h.keep (e.block h.lt.1) e.size
theorem SdBox.mv (h:SdBox W b st en A1 n1 c1 A2 n2 c2 A3 n3 c3 q) {j:Nat} (m:Mv B j W W') (hb:b≠B):SdBox W' b st en A1 n1 c1 A2 n2 c2 A3 n3 c3 q:=h.keep (m.agree b hb h.lt.1) m.size
theorem SdBox.off (h:SdBox W b st en A1 n1 c1 A2 n2 c2 A3 n3 c3 q) (hb:b≠b') (o:Nat) (v:Value):SdBox (W.setCell ⟨b',o,none⟩ v) b st en A1 n1 c1 A2 n2 c2 A3 n3 c3 q:=h.keep (heap_setB hb) (by rw[size_set];exact Nat.le_refl _)
theorem SdBox.set0 (h:SdBox W b st en A1 n1 c1 A2 n2 c2 A3 n3 c3 q) (x:Bool):SdBox (W.setCell ⟨b,0,none⟩ (.bool x)) b x en A1 n1 c1 A2 n2 c2 A3 n3 c3 q:=
 ⟨set_same h.h0,set_other h.h1 (by omega),set_other h.h2 (by omega),set_other h.h3 (by omega),set_other h.h4 (by omega),set_other h.h5 (by omega),fun i=>by rw[World.frozen?_setCell];exact h.fz i,by rw[size_set];exact h.lt⟩
theorem SdBox.set1 (h:SdBox W b st en A1 n1 c1 A2 n2 c2 A3 n3 c3 q) (x:Bool):SdBox (W.setCell ⟨b,1,none⟩ (.bool x)) b st x A1 n1 c1 A2 n2 c2 A3 n3 c3 q:=
 ⟨set_other h.h0 (by omega),set_same h.h1,set_other h.h2 (by omega),set_other h.h3 (by omega),set_other h.h4 (by omega),set_other h.h5 (by omega),fun i=>by rw[World.frozen?_setCell];exact h.fz i,by rw[size_set];exact h.lt⟩
theorem SdBox.set2 (h:SdBox W b st en A1 n1 c1 A2 n2 c2 A3 n3 c3 q) (X:Option Addr) (y z:Nat):SdBox (W.setCell ⟨b,2,none⟩ (.slice X y z)) b st en X y z A2 n2 c2 A3 n3 c3 q:=
 ⟨set_other h.h0 (by omega),set_other h.h1 (by omega),set_same h.h2,set_other h.h3 (by omega),set_other h.h4 (by omega),set_other h.h5 (by omega),fun i=>by rw[World.frozen?_setCell];exact h.fz i,by rw[size_set];exact h.lt⟩
theorem SdBox.set3 (h:SdBox W b st en A1 n1 c1 A2 n2 c2 A3 n3 c3 q) (X:Option Addr) (y z:Nat):SdBox (W.setCell ⟨b,3,none⟩ (.slice X y z)) b st en A1 n1 c1 X y z A3 n3 c3 q:=
 ⟨set_other h.h0 (by omega),set_other h.h1 (by omega),set_other h.h2 (by omega),set_same h.h3,set_other h.h4 (by omega),set_other h.h5 (by omega),fun i=>by rw[World.frozen?_setCell];exact h.fz i,by rw[size_set];exact h.lt⟩
theorem SdBox.set4 (h:SdBox W b st en A1 n1 c1 A2 n2 c2 A3 n3 c3 q) (X:Option Addr) (y z:Nat):SdBox (W.setCell ⟨b,4,none⟩ (.slice X y z)) b st en A1 n1 c1 A2 n2 c2 X y z q:=
 ⟨set_other h.h0 (by omega),set_other h.h1 (by omega),set_other h.h2 (by omega),set_other h.h3 (by omega),set_same h.h4,set_other h.h5 (by omega),fun i=>by rw[World.frozen?_setCell];exact h.fz i,by rw[size_set];exact h.lt⟩
theorem SdBox.set5 (h:SdBox W b st en A1 n1 c1 A2 n2 c2 A3 n3 c3 q) (x:Int):SdBox (W.setCell ⟨b,5,none⟩ (.int .i64 x)) b st en A1 n1 c1 A2 n2 c2 A3 n3 c3 x:=
 ⟨set_other h.h0 (by omega),set_other h.h1 (by omega),set_other h.h2 (by omega),set_other h.h3 (by omega),set_other h.h4 (by omega),set_same h.h5,fun i=>by rw[World.frozen?_setCell];exact h.fz i,by rw[size_set];exact h.lt⟩
theorem SdBox.new (w:World) (st en:Bool) (A1:Option Addr) (n1 c1:Nat) (A2:Option Addr) (n2 c2:Nat) (A3:Option Addr) (n3 c3:Nat) (q:Int) (t:TypeId):SdBox (w.alloc (.cells #[.bool st,.bool en,.slice A1 n1 c1,.slice A2 n2 c2,.slice A3 n3 c3,.int .i64 q] t)) w.heap.size st en A1 n1 c1 A2 n2 c2 A3 n3 c3 q:=by
 constructor <;> first | exact cell_new _ _ _ _ _ rfl | simp
theorem Cr.other {A:Option Addr} {n c j k:Nat} {L:List Int} (h:Cr w B A n c L j W) (h0:CurAt w B A n c L k) (hb:w.heap.size<=b) (o:Nat) (v:Value):Cr w B A n c L j (W.setCell ⟨b,o,none⟩ v):=
 have m:=h.mv.extQ hb o v
 ⟨h0.mv m h.cur.le,m⟩
theorem Its.off {base:Nat} {A:Option Addr} {n c:Nat} {l:List It} (h:Its (fun b=>base<=b) W A n c l) (hb:b<base) (o:Nat) (v:Value):Its (fun b=>base<=b) (W.setCell ⟨b,o,none⟩ v) A n c l:=
 Its.keep h ((agree_set b o W v).mono fun i hi=>by omega)
end
def rSide (base:Nat):Side->World->Value->Prop:=fun s W v=>
 ∃ A1 n1 c1 A2 n2 c2 A3 n3 c3,v=.agg #[.bool s.st,.bool s.en,.slice A1 n1 c1,.slice A2 n2 c2,.slice A3 n3 c3,.int .i64 s.cursor]/\SdA (fun b=>base<=b) W A1 n1 c1 A2 n2 c2 A3 n3 c3 s
theorem i64_cur {q:Int} (h1: -1<=q) (h2:q<=20):i64 q:=by unfold i64;omega
theorem side_any (B:Nat) (A:Option Addr) (n c:Nat) (L:List Int) (k:Nat) (w:World) (h:CurAt w B A n c L k) (hn:n<=16000) :
  Calls Tryz.prog 80 #[.pointer (some ⟨B,0,none⟩)] w fun e w'=>PRet w B (sideF L k) (rSide w.heap.size) e w':=by
 have H:=hid h;have HL:=hid h.row.len;have hnb:=h.nb;have hle:=h.le;have hB:=h.lt.1;have hsp0:spaceF L k<=n:=by have:=spaceF_le (L:=L) (k:=k) (by have:=HL.out;omega);have:=HL.out;omega
 obtain⟨T,hT⟩:∃ T,sideF L k=T:=⟨_,rfl⟩
 rw[hT];unfold sideF at hT;have CS0:=hid (fun W (hW:CurAt W B A n c L k)=>space_any B A n c L k W hW);generalize spaceF L k=j0 at *;have CP:=hid (fun W (hW:CurAt W B A n c L (j0))=>Peek_any B A n c L (j0) W hW);have wj0:IntKind.i64.wrap ((j0:Int)+1)=(j0:Int)+1:=IntWalk.i64_in _ (by omega);have z0:Ext w (w.alloc (.cells #[.bool false,.bool false,.slice none 0 0,.slice none 0 0,.slice none 0 0,.int .i64 0] 109)):=(Ext.refl w).alloc _;have T0:=hid ((SdBox.new w false false none 0 0 none 0 0 none 0 0 0 109).ext ((Ext.refl _).alloc (.cells #[.bool false,.bool false,.slice none 0 0,.slice none 0 0,.slice none 0 0,.int .i64 (-1)] 109)));have V0:=hid (SdBox.new (w.alloc (.cells #[.bool false,.bool false,.slice none 0 0,.slice none 0 0,.slice none 0 0,.int .i64 0] 109)) false false none 0 0 none 0 0 none 0 0 (-1) 109);rw[World.size_alloc] at V0;have S0:=hid ((Cr.refl h).ext (z0.alloc (.cells #[.bool false,.bool false,.slice none 0 0,.slice none 0 0,.slice none 0 0,.int .i64 (-1)] 109)));have HCO:Hid (∀ (j:Nat) (W:World) (o:Nat) (v:Value),Cr w B A n c L j W->Cr w B A n c L j (W.setCell ⟨w.heap.size+1,o,none⟩ v)):=hid (fun j W o v h=>h.other H.out (by omega) o v);have HCT:Hid (∀ (j:Nat) (W:World) (a0 a1 a2 a3 a4 a5:Value),Cr w B A n c L j W->Cr w B A n c L j ((((((W.setCell ⟨w.heap.size,0,none⟩ a0).setCell ⟨w.heap.size,1,none⟩ a1).setCell ⟨w.heap.size,2,none⟩ a2).setCell ⟨w.heap.size,3,none⟩ a3).setCell ⟨w.heap.size,4,none⟩ a4).setCell ⟨w.heap.size,5,none⟩ a5)):=hid (fun j W a0 a1 a2 a3 a4 a5 h=>(((((h.other H.out (Nat.le_refl _) 0 a0).other H.out (Nat.le_refl _) 1 a1).other H.out (Nat.le_refl _) 2 a2).other H.out (Nat.le_refl _) 3 a3).other H.out (Nat.le_refl _) 4 a4).other H.out (Nat.le_refl _) 5 a5)
 have HFIN:Hid (∀ (W:World) (a0 a1 a2 a3 a4 a5:Value),Agree (fun b=>w.heap.size+1+1<=b) W ((((((W.setCell ⟨w.heap.size,0,none⟩ a0).setCell ⟨w.heap.size,1,none⟩ a1).setCell ⟨w.heap.size,2,none⟩ a2).setCell ⟨w.heap.size,3,none⟩ a3).setCell ⟨w.heap.size,4,none⟩ a4).setCell ⟨w.heap.size,5,none⟩ a5)):=hid (fun W a0 a1 a2 a3 a4 a5 b hb hlt=>by
  have hb:w.heap.size+1+1<=b:=hb
  simp only[heap_setB (show b≠w.heap.size by omega)])
 have hTB:w.heap.size≠B:=by omega
 have hVB:w.heap.size+1≠B:=by omega
 have hBT:B≠w.heap.size:=by omega
 have hBV:B≠w.heap.size+1:=by omega
 have hTV:w.heap.size≠w.heap.size+1:=by omega
 have hVT:w.heap.size+1≠w.heap.size:=by omega
 have hBb:B<w.heap.size+1+1:=by omega
 have hVb1:w.heap.size+1<w.heap.size+1+1:=by omega
 have hTlt:w.heap.size<w.heap.size+1:=by omega
 clear h z0;go_enter Tryz.func80,Tryz.ntmps80
 go_wp2_with (first
  | (go_at_call 45;((with_reducible refine (CS0.out _ S0.out.cur).mono ?_);rintro e w1 ⟨rfl,m1⟩;have S1:=hid (S0.out.go H.out m1 hsp0);have T1:=hid (T0.out.mv m1 hTB);have V1:=hid (V0.out.mv m1 hVB);(try clear k1 kz kl);(try clear t0 t1 t2 t3 t4 t5 tz tl);(try clear v0 v1 v2 v3 v4 v5 vz vl);have k1:=S1.out.cur.c1;have kz:=S1.out.cur.fz;have kl:=S1.out.cur.lt;obtain⟨t0,t1,t2,t3,t4,t5,tz,tl⟩:=T1.out;obtain⟨v0,v1,v2,v3,v4,v5,vz,vl⟩:=V1.out;clear m1)))
 clear S0 T0 V0;generalize hTb:w.heap.size=Tb at *;generalize hVb:Tb+1=Vb at *;have HTE:=hid hTb;clear hTb hVb;have hsz:∀ {W:World},(Vb<W.heap.size/\Vb≠W.heap.size)->Vb+1<=W.heap.size:=fun h=>by omega
 by_cases h94:lookF L j0=94
 ·rw[if_pos h94] at hT;rw[h94] at CP;have hj1:j0<n:=by have:=look_lt' h94 (by omega);have:=HL.out;omega
  clear h94
  go_wp2_with (first
   | (go_at_call 46;((with_reducible refine (CP.out _ S1.out.cur).mono ?_);rintro e w2 ⟨rfl,x2⟩;have S2:=hid (S1.out.ext x2);have T2:=hid (T1.out.ext x2);have V2:=hid (V1.out.ext x2);(try clear k1 kz kl);(try clear t0 t1 t2 t3 t4 t5 tz tl);(try clear v0 v1 v2 v3 v4 v5 vz vl);have k1:=S2.out.cur.c1;have kz:=S2.out.cur.fz;have kl:=S2.out.cur.lt;obtain⟨t0,t1,t2,t3,t4,t5,tz,tl⟩:=T2.out;obtain⟨v0,v1,v2,v3,v4,v5,vz,vl⟩:=V2.out;clear x2;have S3:=hid (S2.out.step H.out (x:=(j0:Int)+1) (i:=j0+1) (by omega) (by omega));have T3:=hid (T2.out.off hTB 1 (.int .i64 ((j0:Int)+1)));have V3:=hid (V2.out.off hVB 1 (.int .i64 ((j0:Int)+1)));skip;have S4:=hid (HCO.out _ _ 0 (.bool true) S3.out);have T4:=hid (T3.out.off hTV 0 (.bool true));have V4:=hid (V3.out.set0 true))))
  unfold sideFrom at hT;have CIX1:=hid (fun W (hW:CurAt W B A n c L (j0+1))=>items_any B A n c L (j0+1) W hW hn);have HAX1:=hid (itemsF_adv (L:=L) (k:=j0+1) (by have:=HL.out;omega));obtain⟨X1,hX1⟩:∃ X1,X1=itemsF L (j0+1):=⟨_,rfl⟩
  rw[<- hX1] at hT CIX1 HAX1;clear hX1;go_at_call 118;refine (CIX1.out _ S4.out.cur).mono ?_;intro e w5 h5
  cases X1 with
  | fail er qe=>
   simp only[PR.bind] at hT;subst hT;obtain⟨rfl,qz,mz⟩:=h5;exact⟨rfl,rfl,_,S4.out.mv.trans H.out mz⟩
  | ok oX1 kX1=>
   obtain⟨lX1,qX1⟩:=oX1;obtain⟨v,rfl,⟨AX1,cX1,rfl,s5,hlenX1,hq1X1,hq2X1⟩,m5⟩:=h5;simp only[PR.bind] at hT
   try dsimp only at hT
   have hkX1:=HAX1.out _ _ rfl;have hknX1:kX1<=n:=by have:=HL.out;omega
   have YX1:=hid (Its.mono s5 (fun b hb=>Nat.le_trans (hsz V4.out.lt) hb));have S5:=hid (S4.out.go H.out m5 hknX1);have T5:=hid (T4.out.mv m5 hTB);have V5:=hid (V4.out.mv m5 hVB)
   (try clear k1 kz kl);(try clear t0 t1 t2 t3 t4 t5 tz tl);(try clear v0 v1 v2 v3 v4 v5 vz vl);have k1:=S5.out.cur.c1;have kz:=S5.out.cur.fz;have kl:=S5.out.cur.lt;obtain⟨t0,t1,t2,t3,t4,t5,tz,tl⟩:=T5.out;obtain⟨v0,v1,v2,v3,v4,v5,vz,vl⟩:=V5.out
   clear s5 m5
   try dsimp only
   have CP1:=hid (fun W (hW:CurAt W B A n c L (kX1))=>Peek_any B A n c L (kX1) W hW);by_cases h123:lookF L kX1=123
   ·rw[if_pos h123] at hT;rw[h123] at CP1;have hk123:kX1<n:=by have:=look_lt' h123 (by omega);have:=HL.out;omega
    have wk1:IntKind.i64.wrap ((kX1:Int)+1)=(kX1:Int)+1:=IntWalk.i64_in _ (by omega);clear h123;by_cases hc1:0<=qX1
    ·rw[if_pos hc1] at hT;subst hT;have CF:=hid (fun W=>Fail_any 8 ((j0:Int)+1) W)
     go_wp2_with (first
      | (go_at_call 46;((with_reducible refine (CP1.out _ S5.out.cur).mono ?_);rintro e w6 ⟨rfl,x6⟩;have S6:=hid (S5.out.ext x6);have T6:=hid (T5.out.ext x6);have V6:=hid (V5.out.ext x6);have YX1:=hid (Its.ext YX1.out x6);(try clear k1 kz kl);(try clear t0 t1 t2 t3 t4 t5 tz tl);(try clear v0 v1 v2 v3 v4 v5 vz vl);have k1:=S6.out.cur.c1;have kz:=S6.out.cur.fz;have kl:=S6.out.cur.lt;obtain⟨t0,t1,t2,t3,t4,t5,tz,tl⟩:=T6.out;obtain⟨v0,v1,v2,v3,v4,v5,vz,vl⟩:=V6.out;clear x6))
      | (go_at_call 44;((with_reducible refine (CF.out _).mono ?_);rintro e wz ⟨rfl,rfl⟩)))
     exact⟨by first | rfl | (congr 2),rfl,_,S6.out.mv⟩
    ·rw[if_neg hc1] at hT
     go_wp2_with (first
      | (go_at_call 46;((with_reducible refine (CP1.out _ S5.out.cur).mono ?_);rintro e w6 ⟨rfl,x6⟩;have S6:=hid (S5.out.ext x6);have T6:=hid (T5.out.ext x6);have V6:=hid (V5.out.ext x6);have YX1:=hid (Its.ext YX1.out x6);(try clear k1 kz kl);(try clear t0 t1 t2 t3 t4 t5 tz tl);(try clear v0 v1 v2 v3 v4 v5 vz vl);have k1:=S6.out.cur.c1;have kz:=S6.out.cur.fz;have kl:=S6.out.cur.lt;obtain⟨t0,t1,t2,t3,t4,t5,tz,tl⟩:=T6.out;obtain⟨v0,v1,v2,v3,v4,v5,vz,vl⟩:=V6.out;clear x6;have S7:=hid (S6.out.step H.out (x:=(kX1:Int)+1) (i:=kX1+1) (by omega) (by omega));have T7:=hid (T6.out.off hTB 1 (.int .i64 ((kX1:Int)+1)));have V7:=hid (V6.out.off hVB 1 (.int .i64 ((kX1:Int)+1)));have YX1:=hid (Its.off YX1.out hBb 1 (.int .i64 ((kX1:Int)+1)));skip;have S8:=hid (HCO.out _ _ 2 (.slice AX1 lX1.length cX1) S7.out);have T8:=hid (T7.out.off hTV 2 (.slice AX1 lX1.length cX1));have V8:=hid (V7.out.set2 AX1 lX1.length cX1);have YX1:=hid (Its.off YX1.out hVb1 2 (.slice AX1 lX1.length cX1)))))
     have CIX2:=hid (fun W (hW:CurAt W B A n c L (kX1+1))=>items_any B A n c L (kX1+1) W hW hn);have HAX2:=hid (itemsF_adv (L:=L) (k:=kX1+1) (by have:=HL.out;omega));obtain⟨X2,hX2⟩:∃ X2,X2=itemsF L (kX1+1):=⟨_,rfl⟩
     rw[<- hX2] at hT CIX2 HAX2;clear hX2;go_at_call 118;refine (CIX2.out _ S8.out.cur).mono ?_;intro e w9 h5
     cases X2 with
     | fail er qe=>
      simp only[PR.bind] at hT;subst hT;obtain⟨rfl,qz,mz⟩:=h5;exact⟨rfl,rfl,_,S8.out.mv.trans H.out mz⟩
     | ok oX2 kX2=>
      obtain⟨lX2,qX2⟩:=oX2;obtain⟨v,rfl,⟨AX2,cX2,rfl,s5,hlenX2,hq1X2,hq2X2⟩,m5⟩:=h5;simp only[PR.bind] at hT
      try dsimp only at hT
      have hkX2:=HAX2.out _ _ rfl;have hknX2:kX2<=n:=by have:=HL.out;omega
      have YX2:=hid (Its.mono s5 (fun b hb=>Nat.le_trans (hsz V8.out.lt) hb));have S9:=hid (S8.out.go H.out m5 hknX2);have T9:=hid (T8.out.mv m5 hTB);have V9:=hid (V8.out.mv m5 hVB);have YX1:=hid (Its.mv YX1.out m5 hBb)
      (try clear k1 kz kl);(try clear t0 t1 t2 t3 t4 t5 tz tl);(try clear v0 v1 v2 v3 v4 v5 vz vl);have k1:=S9.out.cur.c1;have kz:=S9.out.cur.fz;have kl:=S9.out.cur.lt;obtain⟨t0,t1,t2,t3,t4,t5,tz,tl⟩:=T9.out;obtain⟨v0,v1,v2,v3,v4,v5,vz,vl⟩:=V9.out
      clear s5 m5
      try dsimp only
      have S10:=hid (HCO.out _ _ 3 (.slice AX2 lX2.length cX2) S9.out);have T10:=hid (T9.out.off hTV 3 (.slice AX2 lX2.length cX2));have V10:=hid (V9.out.set3 AX2 lX2.length cX2);have YX1:=hid (Its.off YX1.out hVb1 3 (.slice AX2 lX2.length cX2));have YX2:=hid (Its.off YX2.out hVb1 3 (.slice AX2 lX2.length cX2));have S11:=hid (HCO.out _ _ 5 (.int .i64 qX2) S10.out);have T11:=hid (T10.out.off hTV 5 (.int .i64 qX2));have V11:=hid (V10.out.set5 qX2);have YX1:=hid (Its.off YX1.out hVb1 5 (.int .i64 qX2));have YX2:=hid (Its.off YX2.out hVb1 5 (.int .i64 qX2));have CP2:=hid (fun W (hW:CurAt W B A n c L (kX2))=>Peek_any B A n c L (kX2) W hW);unfold restF at hT;by_cases h125:lookF L kX2=125
      ·rw[if_pos h125] at hT;rw[h125] at CP2;have hk125:kX2<n:=by have:=look_lt' h125 (by omega);have:=HL.out;omega
       have wk2:IntKind.i64.wrap ((kX2:Int)+1)=(kX2:Int)+1:=IntWalk.i64_in _ (by omega);clear h125
       go_wp2_with (first
        | (go_at_call 46;((with_reducible refine (CP2.out _ S11.out.cur).mono ?_);rintro e w12 ⟨rfl,x12⟩;have S12:=hid (S11.out.ext x12);have T12:=hid (T11.out.ext x12);have V12:=hid (V11.out.ext x12);have YX1:=hid (Its.ext YX1.out x12);have YX2:=hid (Its.ext YX2.out x12);(try clear k1 kz kl);(try clear t0 t1 t2 t3 t4 t5 tz tl);(try clear v0 v1 v2 v3 v4 v5 vz vl);have k1:=S12.out.cur.c1;have kz:=S12.out.cur.fz;have kl:=S12.out.cur.lt;obtain⟨t0,t1,t2,t3,t4,t5,tz,tl⟩:=T12.out;obtain⟨v0,v1,v2,v3,v4,v5,vz,vl⟩:=V12.out;clear x12;have S13:=hid (S12.out.step H.out (x:=(kX2:Int)+1) (i:=kX2+1) (by omega) (by omega));have T13:=hid (T12.out.off hTB 1 (.int .i64 ((kX2:Int)+1)));have V13:=hid (V12.out.off hVB 1 (.int .i64 ((kX2:Int)+1)));have YX1:=hid (Its.off YX1.out hBb 1 (.int .i64 ((kX2:Int)+1)));have YX2:=hid (Its.off YX2.out hBb 1 (.int .i64 ((kX2:Int)+1)));skip)))
       have CIX3:=hid (fun W (hW:CurAt W B A n c L (kX2+1))=>items_any B A n c L (kX2+1) W hW hn);have HAX3:=hid (itemsF_adv (L:=L) (k:=kX2+1) (by have:=HL.out;omega));obtain⟨X3,hX3⟩:∃ X3,X3=itemsF L (kX2+1):=⟨_,rfl⟩
       rw[<- hX3] at hT CIX3 HAX3;clear hX3;go_at_call 118;refine (CIX3.out _ S13.out.cur).mono ?_;intro e w14 h5
       cases X3 with
       | fail er qe=>
        simp only[PR.bind] at hT;subst hT;obtain⟨rfl,qz,mz⟩:=h5;exact⟨rfl,rfl,_,S13.out.mv.trans H.out mz⟩
       | ok oX3 kX3=>
        obtain⟨lX3,qX3⟩:=oX3;obtain⟨v,rfl,⟨AX3,cX3,rfl,s5,hlenX3,hq1X3,hq2X3⟩,m5⟩:=h5;simp only[PR.bind] at hT
        try dsimp only at hT
        have hkX3:=HAX3.out _ _ rfl;have hknX3:kX3<=n:=by have:=HL.out;omega
        have YX3:=hid (Its.mono s5 (fun b hb=>Nat.le_trans (hsz V13.out.lt) hb));have S14:=hid (S13.out.go H.out m5 hknX3);have T14:=hid (T13.out.mv m5 hTB);have V14:=hid (V13.out.mv m5 hVB);have YX1:=hid (Its.mv YX1.out m5 hBb);have YX2:=hid (Its.mv YX2.out m5 hBb)
        (try clear k1 kz kl);(try clear t0 t1 t2 t3 t4 t5 tz tl);(try clear v0 v1 v2 v3 v4 v5 vz vl);have k1:=S14.out.cur.c1;have kz:=S14.out.cur.fz;have kl:=S14.out.cur.lt;obtain⟨t0,t1,t2,t3,t4,t5,tz,tl⟩:=T14.out;obtain⟨v0,v1,v2,v3,v4,v5,vz,vl⟩:=V14.out
        clear s5 m5
        try dsimp only
        have S15:=hid (HCO.out _ _ 4 (.slice AX3 lX3.length cX3) S14.out);have T15:=hid (T14.out.off hTV 4 (.slice AX3 lX3.length cX3));have V15:=hid (V14.out.set4 AX3 lX3.length cX3);have YX1:=hid (Its.off YX1.out hVb1 4 (.slice AX3 lX3.length cX3));have YX2:=hid (Its.off YX2.out hVb1 4 (.slice AX3 lX3.length cX3));have YX3:=hid (Its.off YX3.out hVb1 4 (.slice AX3 lX3.length cX3));by_cases hc3:0<=qX3
        ·rw[if_pos hc3] at hT;subst hT;have CF:=hid (fun W=>Fail_any 8 ((kX2:Int)+1) W)
         go_wp2_with (first
          | (go_at_call 44;((with_reducible refine (CF.out _).mono ?_);rintro e wz ⟨rfl,rfl⟩)))
         exact⟨by first | rfl | (congr 2),rfl,_,S15.out.mv⟩
        ·rw[if_neg hc3] at hT;have CP3:=hid (fun W (hW:CurAt W B A n c L (kX3))=>Peek_any B A n c L (kX3) W hW);by_cases h36:lookF L kX3=36
         ·rw[if_pos h36] at hT;rw[h36] at CP3;have hk36:kX3<n:=by have:=look_lt' h36 (by omega);have:=HL.out;omega
          have wk3:IntKind.i64.wrap ((kX3:Int)+1)=(kX3:Int)+1:=IntWalk.i64_in _ (by omega);clear h36;have hsp:spaceF L (kX3+1)<=n:=by have:=spaceF_le (L:=L) (k:=kX3+1) (by have:=HL.out;omega);have:=HL.out;omega
          have CSz:=hid (fun W (hW:CurAt W B A n c L (kX3+1))=>space_any B A n c L (kX3+1) W hW);generalize spaceF L (kX3+1)=jz at *;subst hT
          go_wp2_with (first
           | (go_at_call 46;((with_reducible refine (CP3.out _ S15.out.cur).mono ?_);rintro e w16 ⟨rfl,x16⟩;have S16:=hid (S15.out.ext x16);have T16:=hid (T15.out.ext x16);have V16:=hid (V15.out.ext x16);have YX1:=hid (Its.ext YX1.out x16);have YX2:=hid (Its.ext YX2.out x16);have YX3:=hid (Its.ext YX3.out x16);(try clear k1 kz kl);(try clear t0 t1 t2 t3 t4 t5 tz tl);(try clear v0 v1 v2 v3 v4 v5 vz vl);have k1:=S16.out.cur.c1;have kz:=S16.out.cur.fz;have kl:=S16.out.cur.lt;obtain⟨t0,t1,t2,t3,t4,t5,tz,tl⟩:=T16.out;obtain⟨v0,v1,v2,v3,v4,v5,vz,vl⟩:=V16.out;clear x16;have S17:=hid (S16.out.step H.out (x:=(kX3:Int)+1) (i:=kX3+1) (by omega) (by omega));have T17:=hid (T16.out.off hTB 1 (.int .i64 ((kX3:Int)+1)));have V17:=hid (V16.out.off hVB 1 (.int .i64 ((kX3:Int)+1)));have YX1:=hid (Its.off YX1.out hBb 1 (.int .i64 ((kX3:Int)+1)));have YX2:=hid (Its.off YX2.out hBb 1 (.int .i64 ((kX3:Int)+1)));have YX3:=hid (Its.off YX3.out hBb 1 (.int .i64 ((kX3:Int)+1)));skip;have S18:=hid (HCO.out _ _ 1 (.bool true) S17.out);have T18:=hid (T17.out.off hTV 1 (.bool true));have V18:=hid (V17.out.set1 true);have YX1:=hid (Its.off YX1.out hVb1 1 (.bool true));have YX2:=hid (Its.off YX2.out hVb1 1 (.bool true));have YX3:=hid (Its.off YX3.out hVb1 1 (.bool true))))
           | (go_at_call 45;((with_reducible refine (CSz.out _ S18.out.cur).mono ?_);rintro e w19 ⟨rfl,m19⟩;have S19:=hid (S18.out.go H.out m19 hsp);have T19:=hid (T18.out.mv m19 hTB);have V19:=hid (V18.out.mv m19 hVB);have YX1:=hid (Its.mv YX1.out m19 hBb);have YX2:=hid (Its.mv YX2.out m19 hBb);have YX3:=hid (Its.mv YX3.out m19 hBb);(try clear k1 kz kl);(try clear t0 t1 t2 t3 t4 t5 tz tl);(try clear v0 v1 v2 v3 v4 v5 vz vl);have k1:=S19.out.cur.c1;have kz:=S19.out.cur.fz;have kl:=S19.out.cur.lt;obtain⟨t0,t1,t2,t3,t4,t5,tz,tl⟩:=T19.out;obtain⟨v0,v1,v2,v3,v4,v5,vz,vl⟩:=V19.out;clear m19)))
          have F0:=T19.out.set0 true;have F1:=F0.set1 true;have F2:=F1.set2 AX1 lX1.length cX1;have F3:=F2.set3 AX2 lX2.length cX2;have F4:=F3.set4 AX3 lX3.length cX3;have F5:=F4.set5 qX2;have u0:=F0.h0;have u1:=F1.h1;have u2:=F2.h2;have u3:=F3.h3;have u4:=F4.h4;have u5:=F5.h5;refine bodyPost_ret (v:=.agg #[.bool true,.bool true,.slice AX1 lX1.length cX1,.slice AX2 lX2.length cX2,.slice AX3 lX3.length cX3,.int .i64 qX2]) (by simp[results,Tryz.results80,go_sem,u0,u1,u2,u3,u4,u5]) rfl ?_;exact⟨_,rfl,⟨_,_,_,_,_,_,_,_,_,rfl,SdA.mono (SdA.keep ⟨YX1.out,YX2.out,YX3.out,i64_cur hq1X2 hq2X2⟩ (HFIN.out _ _ _ _ _ _ _)) (fun b hb=>Nat.le_trans (show w.heap.size<=Vb+1 by rw[HTE.out];omega) hb)⟩,(HCT.out _ _ _ _ _ _ _ _ S19.out).mv⟩
         ·rw[if_neg h36] at hT;have n36:(lookF L kX3==36)=false:=by simpa using h36
          generalize lookF L kX3=r3 at *;clear h36;have hsp:spaceF L (kX3)<=n:=by have:=spaceF_le (L:=L) (k:=kX3) (by have:=HL.out;omega);have:=HL.out;omega
          have CSz:=hid (fun W (hW:CurAt W B A n c L (kX3))=>space_any B A n c L (kX3) W hW);generalize spaceF L (kX3)=jz at *;subst hT
          go_wp2_with (first
           | (go_at_call 46;((with_reducible refine (CP3.out _ S15.out.cur).mono ?_);rintro e w16 ⟨rfl,x16⟩;have S16:=hid (S15.out.ext x16);have T16:=hid (T15.out.ext x16);have V16:=hid (V15.out.ext x16);have YX1:=hid (Its.ext YX1.out x16);have YX2:=hid (Its.ext YX2.out x16);have YX3:=hid (Its.ext YX3.out x16);(try clear k1 kz kl);(try clear t0 t1 t2 t3 t4 t5 tz tl);(try clear v0 v1 v2 v3 v4 v5 vz vl);have k1:=S16.out.cur.c1;have kz:=S16.out.cur.fz;have kl:=S16.out.cur.lt;obtain⟨t0,t1,t2,t3,t4,t5,tz,tl⟩:=T16.out;obtain⟨v0,v1,v2,v3,v4,v5,vz,vl⟩:=V16.out;clear x16))
           | (go_at_call 45;((with_reducible refine (CSz.out _ S16.out.cur).mono ?_);rintro e w17 ⟨rfl,m17⟩;have S17:=hid (S16.out.go H.out m17 hsp);have T17:=hid (T16.out.mv m17 hTB);have V17:=hid (V16.out.mv m17 hVB);have YX1:=hid (Its.mv YX1.out m17 hBb);have YX2:=hid (Its.mv YX2.out m17 hBb);have YX3:=hid (Its.mv YX3.out m17 hBb);(try clear k1 kz kl);(try clear t0 t1 t2 t3 t4 t5 tz tl);(try clear v0 v1 v2 v3 v4 v5 vz vl);have k1:=S17.out.cur.c1;have kz:=S17.out.cur.fz;have kl:=S17.out.cur.lt;obtain⟨t0,t1,t2,t3,t4,t5,tz,tl⟩:=T17.out;obtain⟨v0,v1,v2,v3,v4,v5,vz,vl⟩:=V17.out;clear m17)))
          have F0:=T17.out.set0 true;have F1:=F0.set1 false;have F2:=F1.set2 AX1 lX1.length cX1;have F3:=F2.set3 AX2 lX2.length cX2;have F4:=F3.set4 AX3 lX3.length cX3;have F5:=F4.set5 qX2;have u0:=F0.h0;have u1:=F1.h1;have u2:=F2.h2;have u3:=F3.h3;have u4:=F4.h4;have u5:=F5.h5;refine bodyPost_ret (v:=.agg #[.bool true,.bool false,.slice AX1 lX1.length cX1,.slice AX2 lX2.length cX2,.slice AX3 lX3.length cX3,.int .i64 qX2]) (by simp[results,Tryz.results80,go_sem,u0,u1,u2,u3,u4,u5]) rfl ?_;exact⟨_,rfl,⟨_,_,_,_,_,_,_,_,_,rfl,SdA.mono (SdA.keep ⟨YX1.out,YX2.out,YX3.out,i64_cur hq1X2 hq2X2⟩ (HFIN.out _ _ _ _ _ _ _)) (fun b hb=>Nat.le_trans (show w.heap.size<=Vb+1 by rw[HTE.out];omega) hb)⟩,(HCT.out _ _ _ _ _ _ _ _ S17.out).mv⟩
      ·rw[if_neg h125] at hT;have n125:(lookF L kX2==125)=false:=by simpa using h125
       generalize lookF L kX2=r2 at *;clear h125;have hsp:spaceF L (kX2)<=n:=by have:=spaceF_le (L:=L) (k:=kX2) (by have:=HL.out;omega);have:=HL.out;omega
       have CSz:=hid (fun W (hW:CurAt W B A n c L (kX2))=>space_any B A n c L (kX2) W hW);generalize spaceF L (kX2)=jz at *;subst hT
       go_wp2_with (first
        | (go_at_call 46;((with_reducible refine (CP2.out _ S11.out.cur).mono ?_);rintro e w12 ⟨rfl,x12⟩;have S12:=hid (S11.out.ext x12);have T12:=hid (T11.out.ext x12);have V12:=hid (V11.out.ext x12);have YX1:=hid (Its.ext YX1.out x12);have YX2:=hid (Its.ext YX2.out x12);(try clear k1 kz kl);(try clear t0 t1 t2 t3 t4 t5 tz tl);(try clear v0 v1 v2 v3 v4 v5 vz vl);have k1:=S12.out.cur.c1;have kz:=S12.out.cur.fz;have kl:=S12.out.cur.lt;obtain⟨t0,t1,t2,t3,t4,t5,tz,tl⟩:=T12.out;obtain⟨v0,v1,v2,v3,v4,v5,vz,vl⟩:=V12.out;clear x12))
        | (go_at_call 45;((with_reducible refine (CSz.out _ S12.out.cur).mono ?_);rintro e w13 ⟨rfl,m13⟩;have S13:=hid (S12.out.go H.out m13 hsp);have T13:=hid (T12.out.mv m13 hTB);have V13:=hid (V12.out.mv m13 hVB);have YX1:=hid (Its.mv YX1.out m13 hBb);have YX2:=hid (Its.mv YX2.out m13 hBb);(try clear k1 kz kl);(try clear t0 t1 t2 t3 t4 t5 tz tl);(try clear v0 v1 v2 v3 v4 v5 vz vl);have k1:=S13.out.cur.c1;have kz:=S13.out.cur.fz;have kl:=S13.out.cur.lt;obtain⟨t0,t1,t2,t3,t4,t5,tz,tl⟩:=T13.out;obtain⟨v0,v1,v2,v3,v4,v5,vz,vl⟩:=V13.out;clear m13)))
       have F0:=T13.out.set0 true;have F1:=F0.set1 false;have F2:=F1.set2 AX1 lX1.length cX1;have F3:=F2.set3 AX2 lX2.length cX2;have F4:=F3.set4 none 0 0;have F5:=F4.set5 qX2;have u0:=F0.h0;have u1:=F1.h1;have u2:=F2.h2;have u3:=F3.h3;have u4:=F4.h4;have u5:=F5.h5;refine bodyPost_ret (v:=.agg #[.bool true,.bool false,.slice AX1 lX1.length cX1,.slice AX2 lX2.length cX2,.slice none 0 0,.int .i64 qX2]) (by simp[results,Tryz.results80,go_sem,u0,u1,u2,u3,u4,u5]) rfl ?_;exact⟨_,rfl,⟨_,_,_,_,_,_,_,_,_,rfl,SdA.mono (SdA.keep ⟨YX1.out,YX2.out,SlR.nil _ _ _ _ _ _ (by unfold maxLen;omega),i64_cur hq1X2 hq2X2⟩ (HFIN.out _ _ _ _ _ _ _)) (fun b hb=>Nat.le_trans (show w.heap.size<=Vb+1 by rw[HTE.out];omega) hb)⟩,(HCT.out _ _ _ _ _ _ _ _ S13.out).mv⟩
   ·rw[if_neg h123] at hT;have n123:(lookF L kX1==123)=false:=by simpa using h123
    simp only[if_true] at hT;subst hT;generalize lookF L kX1=r1 at *;have CF:=hid (fun W=>Fail_any 2 kX1 W);clear h123
    go_wp2_with (first
     | (go_at_call 46;((with_reducible refine (CP1.out _ S5.out.cur).mono ?_);rintro e w6 ⟨rfl,x6⟩;have S6:=hid (S5.out.ext x6);have T6:=hid (T5.out.ext x6);have V6:=hid (V5.out.ext x6);have YX1:=hid (Its.ext YX1.out x6);(try clear k1 kz kl);(try clear t0 t1 t2 t3 t4 t5 tz tl);(try clear v0 v1 v2 v3 v4 v5 vz vl);have k1:=S6.out.cur.c1;have kz:=S6.out.cur.fz;have kl:=S6.out.cur.lt;obtain⟨t0,t1,t2,t3,t4,t5,tz,tl⟩:=T6.out;obtain⟨v0,v1,v2,v3,v4,v5,vz,vl⟩:=V6.out;clear x6))
     | (go_at_call 44;((with_reducible refine (CF.out _).mono ?_);rintro e wz ⟨rfl,rfl⟩)))
    exact⟨rfl,rfl,_,S6.out.mv⟩
 ·rw[if_neg h94] at hT;have n94:(lookF L j0==94)=false:=by simpa using h94
  have CP:=hid (fun W (hW:CurAt W B A n c L j0)=>CP.out W hW);generalize lookF L j0=r0 at *;clear h94
  go_wp2_with (first
   | (go_at_call 46;((with_reducible refine (CP.out _ S1.out.cur).mono ?_);rintro e w2 ⟨rfl,x2⟩;have S2:=hid (S1.out.ext x2);have T2:=hid (T1.out.ext x2);have V2:=hid (V1.out.ext x2);(try clear k1 kz kl);(try clear t0 t1 t2 t3 t4 t5 tz tl);(try clear v0 v1 v2 v3 v4 v5 vz vl);have k1:=S2.out.cur.c1;have kz:=S2.out.cur.fz;have kl:=S2.out.cur.lt;obtain⟨t0,t1,t2,t3,t4,t5,tz,tl⟩:=T2.out;obtain⟨v0,v1,v2,v3,v4,v5,vz,vl⟩:=V2.out;clear x2)))
  unfold sideFrom at hT;have CIX1:=hid (fun W (hW:CurAt W B A n c L (j0))=>items_any B A n c L (j0) W hW hn);have HAX1:=hid (itemsF_adv (L:=L) (k:=j0) (by have:=HL.out;omega));obtain⟨X1,hX1⟩:∃ X1,X1=itemsF L (j0):=⟨_,rfl⟩
  rw[<- hX1] at hT CIX1 HAX1;clear hX1;go_at_call 118;refine (CIX1.out _ S2.out.cur).mono ?_;intro e w3 h5
  cases X1 with
  | fail er qe=>
   simp only[PR.bind] at hT;subst hT;obtain⟨rfl,qz,mz⟩:=h5;exact⟨rfl,rfl,_,S2.out.mv.trans H.out mz⟩
  | ok oX1 kX1=>
   obtain⟨lX1,qX1⟩:=oX1;obtain⟨v,rfl,⟨AX1,cX1,rfl,s5,hlenX1,hq1X1,hq2X1⟩,m5⟩:=h5;simp only[PR.bind] at hT
   try dsimp only at hT
   have hkX1:=HAX1.out _ _ rfl;have hknX1:kX1<=n:=by have:=HL.out;omega
   have YX1:=hid (Its.mono s5 (fun b hb=>Nat.le_trans (hsz V2.out.lt) hb));have S3:=hid (S2.out.go H.out m5 hknX1);have T3:=hid (T2.out.mv m5 hTB);have V3:=hid (V2.out.mv m5 hVB)
   (try clear k1 kz kl);(try clear t0 t1 t2 t3 t4 t5 tz tl);(try clear v0 v1 v2 v3 v4 v5 vz vl);have k1:=S3.out.cur.c1;have kz:=S3.out.cur.fz;have kl:=S3.out.cur.lt;obtain⟨t0,t1,t2,t3,t4,t5,tz,tl⟩:=T3.out;obtain⟨v0,v1,v2,v3,v4,v5,vz,vl⟩:=V3.out
   clear s5 m5
   try dsimp only
   have CP1:=hid (fun W (hW:CurAt W B A n c L (kX1))=>Peek_any B A n c L (kX1) W hW);by_cases h123:lookF L kX1=123
   ·rw[if_pos h123] at hT;rw[h123] at CP1;have hk123:kX1<n:=by have:=look_lt' h123 (by omega);have:=HL.out;omega
    have wk1:IntKind.i64.wrap ((kX1:Int)+1)=(kX1:Int)+1:=IntWalk.i64_in _ (by omega);clear h123;by_cases hc1:0<=qX1
    ·rw[if_pos hc1] at hT;subst hT;have CF:=hid (fun W=>Fail_any 8 (j0:Int) W)
     go_wp2_with (first
      | (go_at_call 46;((with_reducible refine (CP1.out _ S3.out.cur).mono ?_);rintro e w4 ⟨rfl,x4⟩;have S4:=hid (S3.out.ext x4);have T4:=hid (T3.out.ext x4);have V4:=hid (V3.out.ext x4);have YX1:=hid (Its.ext YX1.out x4);(try clear k1 kz kl);(try clear t0 t1 t2 t3 t4 t5 tz tl);(try clear v0 v1 v2 v3 v4 v5 vz vl);have k1:=S4.out.cur.c1;have kz:=S4.out.cur.fz;have kl:=S4.out.cur.lt;obtain⟨t0,t1,t2,t3,t4,t5,tz,tl⟩:=T4.out;obtain⟨v0,v1,v2,v3,v4,v5,vz,vl⟩:=V4.out;clear x4))
      | (go_at_call 44;((with_reducible refine (CF.out _).mono ?_);rintro e wz ⟨rfl,rfl⟩)))
     exact⟨by first | rfl | (congr 2),rfl,_,S4.out.mv⟩
    ·rw[if_neg hc1] at hT
     go_wp2_with (first
      | (go_at_call 46;((with_reducible refine (CP1.out _ S3.out.cur).mono ?_);rintro e w4 ⟨rfl,x4⟩;have S4:=hid (S3.out.ext x4);have T4:=hid (T3.out.ext x4);have V4:=hid (V3.out.ext x4);have YX1:=hid (Its.ext YX1.out x4);(try clear k1 kz kl);(try clear t0 t1 t2 t3 t4 t5 tz tl);(try clear v0 v1 v2 v3 v4 v5 vz vl);have k1:=S4.out.cur.c1;have kz:=S4.out.cur.fz;have kl:=S4.out.cur.lt;obtain⟨t0,t1,t2,t3,t4,t5,tz,tl⟩:=T4.out;obtain⟨v0,v1,v2,v3,v4,v5,vz,vl⟩:=V4.out;clear x4;have S5:=hid (S4.out.step H.out (x:=(kX1:Int)+1) (i:=kX1+1) (by omega) (by omega));have T5:=hid (T4.out.off hTB 1 (.int .i64 ((kX1:Int)+1)));have V5:=hid (V4.out.off hVB 1 (.int .i64 ((kX1:Int)+1)));have YX1:=hid (Its.off YX1.out hBb 1 (.int .i64 ((kX1:Int)+1)));skip;have S6:=hid (HCO.out _ _ 2 (.slice AX1 lX1.length cX1) S5.out);have T6:=hid (T5.out.off hTV 2 (.slice AX1 lX1.length cX1));have V6:=hid (V5.out.set2 AX1 lX1.length cX1);have YX1:=hid (Its.off YX1.out hVb1 2 (.slice AX1 lX1.length cX1)))))
     have CIX2:=hid (fun W (hW:CurAt W B A n c L (kX1+1))=>items_any B A n c L (kX1+1) W hW hn);have HAX2:=hid (itemsF_adv (L:=L) (k:=kX1+1) (by have:=HL.out;omega));obtain⟨X2,hX2⟩:∃ X2,X2=itemsF L (kX1+1):=⟨_,rfl⟩
     rw[<- hX2] at hT CIX2 HAX2;clear hX2;go_at_call 118;refine (CIX2.out _ S6.out.cur).mono ?_;intro e w7 h5
     cases X2 with
     | fail er qe=>
      simp only[PR.bind] at hT;subst hT;obtain⟨rfl,qz,mz⟩:=h5;exact⟨rfl,rfl,_,S6.out.mv.trans H.out mz⟩
     | ok oX2 kX2=>
      obtain⟨lX2,qX2⟩:=oX2;obtain⟨v,rfl,⟨AX2,cX2,rfl,s5,hlenX2,hq1X2,hq2X2⟩,m5⟩:=h5;simp only[PR.bind] at hT
      try dsimp only at hT
      have hkX2:=HAX2.out _ _ rfl;have hknX2:kX2<=n:=by have:=HL.out;omega
      have YX2:=hid (Its.mono s5 (fun b hb=>Nat.le_trans (hsz V6.out.lt) hb));have S7:=hid (S6.out.go H.out m5 hknX2);have T7:=hid (T6.out.mv m5 hTB);have V7:=hid (V6.out.mv m5 hVB);have YX1:=hid (Its.mv YX1.out m5 hBb)
      (try clear k1 kz kl);(try clear t0 t1 t2 t3 t4 t5 tz tl);(try clear v0 v1 v2 v3 v4 v5 vz vl);have k1:=S7.out.cur.c1;have kz:=S7.out.cur.fz;have kl:=S7.out.cur.lt;obtain⟨t0,t1,t2,t3,t4,t5,tz,tl⟩:=T7.out;obtain⟨v0,v1,v2,v3,v4,v5,vz,vl⟩:=V7.out
      clear s5 m5
      try dsimp only
      have S8:=hid (HCO.out _ _ 3 (.slice AX2 lX2.length cX2) S7.out);have T8:=hid (T7.out.off hTV 3 (.slice AX2 lX2.length cX2));have V8:=hid (V7.out.set3 AX2 lX2.length cX2);have YX1:=hid (Its.off YX1.out hVb1 3 (.slice AX2 lX2.length cX2));have YX2:=hid (Its.off YX2.out hVb1 3 (.slice AX2 lX2.length cX2));have S9:=hid (HCO.out _ _ 5 (.int .i64 qX2) S8.out);have T9:=hid (T8.out.off hTV 5 (.int .i64 qX2));have V9:=hid (V8.out.set5 qX2);have YX1:=hid (Its.off YX1.out hVb1 5 (.int .i64 qX2));have YX2:=hid (Its.off YX2.out hVb1 5 (.int .i64 qX2));have CP2:=hid (fun W (hW:CurAt W B A n c L (kX2))=>Peek_any B A n c L (kX2) W hW);unfold restF at hT;by_cases h125:lookF L kX2=125
      ·rw[if_pos h125] at hT;rw[h125] at CP2;have hk125:kX2<n:=by have:=look_lt' h125 (by omega);have:=HL.out;omega
       have wk2:IntKind.i64.wrap ((kX2:Int)+1)=(kX2:Int)+1:=IntWalk.i64_in _ (by omega);clear h125
       go_wp2_with (first
        | (go_at_call 46;((with_reducible refine (CP2.out _ S9.out.cur).mono ?_);rintro e w10 ⟨rfl,x10⟩;have S10:=hid (S9.out.ext x10);have T10:=hid (T9.out.ext x10);have V10:=hid (V9.out.ext x10);have YX1:=hid (Its.ext YX1.out x10);have YX2:=hid (Its.ext YX2.out x10);(try clear k1 kz kl);(try clear t0 t1 t2 t3 t4 t5 tz tl);(try clear v0 v1 v2 v3 v4 v5 vz vl);have k1:=S10.out.cur.c1;have kz:=S10.out.cur.fz;have kl:=S10.out.cur.lt;obtain⟨t0,t1,t2,t3,t4,t5,tz,tl⟩:=T10.out;obtain⟨v0,v1,v2,v3,v4,v5,vz,vl⟩:=V10.out;clear x10;have S11:=hid (S10.out.step H.out (x:=(kX2:Int)+1) (i:=kX2+1) (by omega) (by omega));have T11:=hid (T10.out.off hTB 1 (.int .i64 ((kX2:Int)+1)));have V11:=hid (V10.out.off hVB 1 (.int .i64 ((kX2:Int)+1)));have YX1:=hid (Its.off YX1.out hBb 1 (.int .i64 ((kX2:Int)+1)));have YX2:=hid (Its.off YX2.out hBb 1 (.int .i64 ((kX2:Int)+1)));skip)))
       have CIX3:=hid (fun W (hW:CurAt W B A n c L (kX2+1))=>items_any B A n c L (kX2+1) W hW hn);have HAX3:=hid (itemsF_adv (L:=L) (k:=kX2+1) (by have:=HL.out;omega));obtain⟨X3,hX3⟩:∃ X3,X3=itemsF L (kX2+1):=⟨_,rfl⟩
       rw[<- hX3] at hT CIX3 HAX3;clear hX3;go_at_call 118;refine (CIX3.out _ S11.out.cur).mono ?_;intro e w12 h5
       cases X3 with
       | fail er qe=>
        simp only[PR.bind] at hT;subst hT;obtain⟨rfl,qz,mz⟩:=h5;exact⟨rfl,rfl,_,S11.out.mv.trans H.out mz⟩
       | ok oX3 kX3=>
        obtain⟨lX3,qX3⟩:=oX3;obtain⟨v,rfl,⟨AX3,cX3,rfl,s5,hlenX3,hq1X3,hq2X3⟩,m5⟩:=h5;simp only[PR.bind] at hT
        try dsimp only at hT
        have hkX3:=HAX3.out _ _ rfl;have hknX3:kX3<=n:=by have:=HL.out;omega
        have YX3:=hid (Its.mono s5 (fun b hb=>Nat.le_trans (hsz V11.out.lt) hb));have S12:=hid (S11.out.go H.out m5 hknX3);have T12:=hid (T11.out.mv m5 hTB);have V12:=hid (V11.out.mv m5 hVB);have YX1:=hid (Its.mv YX1.out m5 hBb);have YX2:=hid (Its.mv YX2.out m5 hBb)
        (try clear k1 kz kl);(try clear t0 t1 t2 t3 t4 t5 tz tl);(try clear v0 v1 v2 v3 v4 v5 vz vl);have k1:=S12.out.cur.c1;have kz:=S12.out.cur.fz;have kl:=S12.out.cur.lt;obtain⟨t0,t1,t2,t3,t4,t5,tz,tl⟩:=T12.out;obtain⟨v0,v1,v2,v3,v4,v5,vz,vl⟩:=V12.out
        clear s5 m5
        try dsimp only
        have S13:=hid (HCO.out _ _ 4 (.slice AX3 lX3.length cX3) S12.out);have T13:=hid (T12.out.off hTV 4 (.slice AX3 lX3.length cX3));have V13:=hid (V12.out.set4 AX3 lX3.length cX3);have YX1:=hid (Its.off YX1.out hVb1 4 (.slice AX3 lX3.length cX3));have YX2:=hid (Its.off YX2.out hVb1 4 (.slice AX3 lX3.length cX3));have YX3:=hid (Its.off YX3.out hVb1 4 (.slice AX3 lX3.length cX3));by_cases hc3:0<=qX3
        ·rw[if_pos hc3] at hT;subst hT;have CF:=hid (fun W=>Fail_any 8 ((kX2:Int)+1) W)
         go_wp2_with (first
          | (go_at_call 44;((with_reducible refine (CF.out _).mono ?_);rintro e wz ⟨rfl,rfl⟩)))
         exact⟨by first | rfl | (congr 2),rfl,_,S13.out.mv⟩
        ·rw[if_neg hc3] at hT;have CP3:=hid (fun W (hW:CurAt W B A n c L (kX3))=>Peek_any B A n c L (kX3) W hW);by_cases h36:lookF L kX3=36
         ·rw[if_pos h36] at hT;rw[h36] at CP3;have hk36:kX3<n:=by have:=look_lt' h36 (by omega);have:=HL.out;omega
          have wk3:IntKind.i64.wrap ((kX3:Int)+1)=(kX3:Int)+1:=IntWalk.i64_in _ (by omega);clear h36;have hsp:spaceF L (kX3+1)<=n:=by have:=spaceF_le (L:=L) (k:=kX3+1) (by have:=HL.out;omega);have:=HL.out;omega
          have CSz:=hid (fun W (hW:CurAt W B A n c L (kX3+1))=>space_any B A n c L (kX3+1) W hW);generalize spaceF L (kX3+1)=jz at *;subst hT
          go_wp2_with (first
           | (go_at_call 46;((with_reducible refine (CP3.out _ S13.out.cur).mono ?_);rintro e w14 ⟨rfl,x14⟩;have S14:=hid (S13.out.ext x14);have T14:=hid (T13.out.ext x14);have V14:=hid (V13.out.ext x14);have YX1:=hid (Its.ext YX1.out x14);have YX2:=hid (Its.ext YX2.out x14);have YX3:=hid (Its.ext YX3.out x14);(try clear k1 kz kl);(try clear t0 t1 t2 t3 t4 t5 tz tl);(try clear v0 v1 v2 v3 v4 v5 vz vl);have k1:=S14.out.cur.c1;have kz:=S14.out.cur.fz;have kl:=S14.out.cur.lt;obtain⟨t0,t1,t2,t3,t4,t5,tz,tl⟩:=T14.out;obtain⟨v0,v1,v2,v3,v4,v5,vz,vl⟩:=V14.out;clear x14;have S15:=hid (S14.out.step H.out (x:=(kX3:Int)+1) (i:=kX3+1) (by omega) (by omega));have T15:=hid (T14.out.off hTB 1 (.int .i64 ((kX3:Int)+1)));have V15:=hid (V14.out.off hVB 1 (.int .i64 ((kX3:Int)+1)));have YX1:=hid (Its.off YX1.out hBb 1 (.int .i64 ((kX3:Int)+1)));have YX2:=hid (Its.off YX2.out hBb 1 (.int .i64 ((kX3:Int)+1)));have YX3:=hid (Its.off YX3.out hBb 1 (.int .i64 ((kX3:Int)+1)));skip;have S16:=hid (HCO.out _ _ 1 (.bool true) S15.out);have T16:=hid (T15.out.off hTV 1 (.bool true));have V16:=hid (V15.out.set1 true);have YX1:=hid (Its.off YX1.out hVb1 1 (.bool true));have YX2:=hid (Its.off YX2.out hVb1 1 (.bool true));have YX3:=hid (Its.off YX3.out hVb1 1 (.bool true))))
           | (go_at_call 45;((with_reducible refine (CSz.out _ S16.out.cur).mono ?_);rintro e w17 ⟨rfl,m17⟩;have S17:=hid (S16.out.go H.out m17 hsp);have T17:=hid (T16.out.mv m17 hTB);have V17:=hid (V16.out.mv m17 hVB);have YX1:=hid (Its.mv YX1.out m17 hBb);have YX2:=hid (Its.mv YX2.out m17 hBb);have YX3:=hid (Its.mv YX3.out m17 hBb);(try clear k1 kz kl);(try clear t0 t1 t2 t3 t4 t5 tz tl);(try clear v0 v1 v2 v3 v4 v5 vz vl);have k1:=S17.out.cur.c1;have kz:=S17.out.cur.fz;have kl:=S17.out.cur.lt;obtain⟨t0,t1,t2,t3,t4,t5,tz,tl⟩:=T17.out;obtain⟨v0,v1,v2,v3,v4,v5,vz,vl⟩:=V17.out;clear m17)))
          have F0:=T17.out.set0 false;have F1:=F0.set1 true;have F2:=F1.set2 AX1 lX1.length cX1;have F3:=F2.set3 AX2 lX2.length cX2;have F4:=F3.set4 AX3 lX3.length cX3;have F5:=F4.set5 qX2;have u0:=F0.h0;have u1:=F1.h1;have u2:=F2.h2;have u3:=F3.h3;have u4:=F4.h4;have u5:=F5.h5;refine bodyPost_ret (v:=.agg #[.bool false,.bool true,.slice AX1 lX1.length cX1,.slice AX2 lX2.length cX2,.slice AX3 lX3.length cX3,.int .i64 qX2]) (by simp[results,Tryz.results80,go_sem,u0,u1,u2,u3,u4,u5]) rfl ?_;exact⟨_,rfl,⟨_,_,_,_,_,_,_,_,_,rfl,SdA.mono (SdA.keep ⟨YX1.out,YX2.out,YX3.out,i64_cur hq1X2 hq2X2⟩ (HFIN.out _ _ _ _ _ _ _)) (fun b hb=>Nat.le_trans (show w.heap.size<=Vb+1 by rw[HTE.out];omega) hb)⟩,(HCT.out _ _ _ _ _ _ _ _ S17.out).mv⟩
         ·rw[if_neg h36] at hT;have n36:(lookF L kX3==36)=false:=by simpa using h36
          generalize lookF L kX3=r3 at *;clear h36;have hsp:spaceF L (kX3)<=n:=by have:=spaceF_le (L:=L) (k:=kX3) (by have:=HL.out;omega);have:=HL.out;omega
          have CSz:=hid (fun W (hW:CurAt W B A n c L (kX3))=>space_any B A n c L (kX3) W hW);generalize spaceF L (kX3)=jz at *;subst hT
          go_wp2_with (first
           | (go_at_call 46;((with_reducible refine (CP3.out _ S13.out.cur).mono ?_);rintro e w14 ⟨rfl,x14⟩;have S14:=hid (S13.out.ext x14);have T14:=hid (T13.out.ext x14);have V14:=hid (V13.out.ext x14);have YX1:=hid (Its.ext YX1.out x14);have YX2:=hid (Its.ext YX2.out x14);have YX3:=hid (Its.ext YX3.out x14);(try clear k1 kz kl);(try clear t0 t1 t2 t3 t4 t5 tz tl);(try clear v0 v1 v2 v3 v4 v5 vz vl);have k1:=S14.out.cur.c1;have kz:=S14.out.cur.fz;have kl:=S14.out.cur.lt;obtain⟨t0,t1,t2,t3,t4,t5,tz,tl⟩:=T14.out;obtain⟨v0,v1,v2,v3,v4,v5,vz,vl⟩:=V14.out;clear x14))
           | (go_at_call 45;((with_reducible refine (CSz.out _ S14.out.cur).mono ?_);rintro e w15 ⟨rfl,m15⟩;have S15:=hid (S14.out.go H.out m15 hsp);have T15:=hid (T14.out.mv m15 hTB);have V15:=hid (V14.out.mv m15 hVB);have YX1:=hid (Its.mv YX1.out m15 hBb);have YX2:=hid (Its.mv YX2.out m15 hBb);have YX3:=hid (Its.mv YX3.out m15 hBb);(try clear k1 kz kl);(try clear t0 t1 t2 t3 t4 t5 tz tl);(try clear v0 v1 v2 v3 v4 v5 vz vl);have k1:=S15.out.cur.c1;have kz:=S15.out.cur.fz;have kl:=S15.out.cur.lt;obtain⟨t0,t1,t2,t3,t4,t5,tz,tl⟩:=T15.out;obtain⟨v0,v1,v2,v3,v4,v5,vz,vl⟩:=V15.out;clear m15)))
          have F0:=T15.out.set0 false;have F1:=F0.set1 false;have F2:=F1.set2 AX1 lX1.length cX1;have F3:=F2.set3 AX2 lX2.length cX2;have F4:=F3.set4 AX3 lX3.length cX3;have F5:=F4.set5 qX2;have u0:=F0.h0;have u1:=F1.h1;have u2:=F2.h2;have u3:=F3.h3;have u4:=F4.h4;have u5:=F5.h5;refine bodyPost_ret (v:=.agg #[.bool false,.bool false,.slice AX1 lX1.length cX1,.slice AX2 lX2.length cX2,.slice AX3 lX3.length cX3,.int .i64 qX2]) (by simp[results,Tryz.results80,go_sem,u0,u1,u2,u3,u4,u5]) rfl ?_;exact⟨_,rfl,⟨_,_,_,_,_,_,_,_,_,rfl,SdA.mono (SdA.keep ⟨YX1.out,YX2.out,YX3.out,i64_cur hq1X2 hq2X2⟩ (HFIN.out _ _ _ _ _ _ _)) (fun b hb=>Nat.le_trans (show w.heap.size<=Vb+1 by rw[HTE.out];omega) hb)⟩,(HCT.out _ _ _ _ _ _ _ _ S15.out).mv⟩
      ·rw[if_neg h125] at hT;have n125:(lookF L kX2==125)=false:=by simpa using h125
       generalize lookF L kX2=r2 at *;clear h125;have hsp:spaceF L (kX2)<=n:=by have:=spaceF_le (L:=L) (k:=kX2) (by have:=HL.out;omega);have:=HL.out;omega
       have CSz:=hid (fun W (hW:CurAt W B A n c L (kX2))=>space_any B A n c L (kX2) W hW);generalize spaceF L (kX2)=jz at *;subst hT
       go_wp2_with (first
        | (go_at_call 46;((with_reducible refine (CP2.out _ S9.out.cur).mono ?_);rintro e w10 ⟨rfl,x10⟩;have S10:=hid (S9.out.ext x10);have T10:=hid (T9.out.ext x10);have V10:=hid (V9.out.ext x10);have YX1:=hid (Its.ext YX1.out x10);have YX2:=hid (Its.ext YX2.out x10);(try clear k1 kz kl);(try clear t0 t1 t2 t3 t4 t5 tz tl);(try clear v0 v1 v2 v3 v4 v5 vz vl);have k1:=S10.out.cur.c1;have kz:=S10.out.cur.fz;have kl:=S10.out.cur.lt;obtain⟨t0,t1,t2,t3,t4,t5,tz,tl⟩:=T10.out;obtain⟨v0,v1,v2,v3,v4,v5,vz,vl⟩:=V10.out;clear x10))
        | (go_at_call 45;((with_reducible refine (CSz.out _ S10.out.cur).mono ?_);rintro e w11 ⟨rfl,m11⟩;have S11:=hid (S10.out.go H.out m11 hsp);have T11:=hid (T10.out.mv m11 hTB);have V11:=hid (V10.out.mv m11 hVB);have YX1:=hid (Its.mv YX1.out m11 hBb);have YX2:=hid (Its.mv YX2.out m11 hBb);(try clear k1 kz kl);(try clear t0 t1 t2 t3 t4 t5 tz tl);(try clear v0 v1 v2 v3 v4 v5 vz vl);have k1:=S11.out.cur.c1;have kz:=S11.out.cur.fz;have kl:=S11.out.cur.lt;obtain⟨t0,t1,t2,t3,t4,t5,tz,tl⟩:=T11.out;obtain⟨v0,v1,v2,v3,v4,v5,vz,vl⟩:=V11.out;clear m11)))
       have F0:=T11.out.set0 false;have F1:=F0.set1 false;have F2:=F1.set2 AX1 lX1.length cX1;have F3:=F2.set3 AX2 lX2.length cX2;have F4:=F3.set4 none 0 0;have F5:=F4.set5 qX2;have u0:=F0.h0;have u1:=F1.h1;have u2:=F2.h2;have u3:=F3.h3;have u4:=F4.h4;have u5:=F5.h5;refine bodyPost_ret (v:=.agg #[.bool false,.bool false,.slice AX1 lX1.length cX1,.slice AX2 lX2.length cX2,.slice none 0 0,.int .i64 qX2]) (by simp[results,Tryz.results80,go_sem,u0,u1,u2,u3,u4,u5]) rfl ?_;exact⟨_,rfl,⟨_,_,_,_,_,_,_,_,_,rfl,SdA.mono (SdA.keep ⟨YX1.out,YX2.out,SlR.nil _ _ _ _ _ _ (by unfold maxLen;omega),i64_cur hq1X2 hq2X2⟩ (HFIN.out _ _ _ _ _ _ _)) (fun b hb=>Nat.le_trans (show w.heap.size<=Vb+1 by rw[HTE.out];omega) hb)⟩,(HCT.out _ _ _ _ _ _ _ _ S11.out).mv⟩
   ·rw[if_neg h123] at hT;have n123:(lookF L kX1==123)=false:=by simpa using h123
    simp only[Bool.false_eq_true,if_false] at hT;have CP1:=hid (fun W (hW:CurAt W B A n c L kX1)=>CP1.out W hW);clear h123
    go_wp2_with (first
     | (go_at_call 46;((with_reducible refine (CP1.out _ S3.out.cur).mono ?_);rintro e w4 ⟨rfl,x4⟩;have S4:=hid (S3.out.ext x4);have T4:=hid (T3.out.ext x4);have V4:=hid (V3.out.ext x4);have YX1:=hid (Its.ext YX1.out x4);(try clear k1 kz kl);(try clear t0 t1 t2 t3 t4 t5 tz tl);(try clear v0 v1 v2 v3 v4 v5 vz vl);have k1:=S4.out.cur.c1;have kz:=S4.out.cur.fz;have kl:=S4.out.cur.lt;obtain⟨t0,t1,t2,t3,t4,t5,tz,tl⟩:=T4.out;obtain⟨v0,v1,v2,v3,v4,v5,vz,vl⟩:=V4.out;clear x4)))
    have S5:=hid (HCO.out _ _ 3 (.slice AX1 lX1.length cX1) S4.out);have T5:=hid (T4.out.off hTV 3 (.slice AX1 lX1.length cX1));have V5:=hid (V4.out.set3 AX1 lX1.length cX1);have YX1:=hid (Its.off YX1.out hVb1 3 (.slice AX1 lX1.length cX1));have S6:=hid (HCO.out _ _ 5 (.int .i64 qX1) S5.out);have T6:=hid (T5.out.off hTV 5 (.int .i64 qX1));have V6:=hid (V5.out.set5 qX1);have YX1:=hid (Its.off YX1.out hVb1 5 (.int .i64 qX1));have CP2:=hid (fun W (hW:CurAt W B A n c L (kX1))=>Peek_any B A n c L (kX1) W hW);unfold restF at hT;by_cases h125:lookF L kX1=125
    ·rw[if_pos h125] at hT;rw[h125] at CP2;have hk125:kX1<n:=by have:=look_lt' h125 (by omega);have:=HL.out;omega
     have wk2:IntKind.i64.wrap ((kX1:Int)+1)=(kX1:Int)+1:=IntWalk.i64_in _ (by omega);clear h125
     go_wp2_with (first
      | (go_at_call 46;((with_reducible refine (CP2.out _ S6.out.cur).mono ?_);rintro e w7 ⟨rfl,x7⟩;have S7:=hid (S6.out.ext x7);have T7:=hid (T6.out.ext x7);have V7:=hid (V6.out.ext x7);have YX1:=hid (Its.ext YX1.out x7);(try clear k1 kz kl);(try clear t0 t1 t2 t3 t4 t5 tz tl);(try clear v0 v1 v2 v3 v4 v5 vz vl);have k1:=S7.out.cur.c1;have kz:=S7.out.cur.fz;have kl:=S7.out.cur.lt;obtain⟨t0,t1,t2,t3,t4,t5,tz,tl⟩:=T7.out;obtain⟨v0,v1,v2,v3,v4,v5,vz,vl⟩:=V7.out;clear x7;have S8:=hid (S7.out.step H.out (x:=(kX1:Int)+1) (i:=kX1+1) (by omega) (by omega));have T8:=hid (T7.out.off hTB 1 (.int .i64 ((kX1:Int)+1)));have V8:=hid (V7.out.off hVB 1 (.int .i64 ((kX1:Int)+1)));have YX1:=hid (Its.off YX1.out hBb 1 (.int .i64 ((kX1:Int)+1)));skip)))
     have CIX3:=hid (fun W (hW:CurAt W B A n c L (kX1+1))=>items_any B A n c L (kX1+1) W hW hn);have HAX3:=hid (itemsF_adv (L:=L) (k:=kX1+1) (by have:=HL.out;omega));obtain⟨X3,hX3⟩:∃ X3,X3=itemsF L (kX1+1):=⟨_,rfl⟩
     rw[<- hX3] at hT CIX3 HAX3;clear hX3;go_at_call 118;refine (CIX3.out _ S8.out.cur).mono ?_;intro e w9 h5
     cases X3 with
     | fail er qe=>
      simp only[PR.bind] at hT;subst hT;obtain⟨rfl,qz,mz⟩:=h5;exact⟨rfl,rfl,_,S8.out.mv.trans H.out mz⟩
     | ok oX3 kX3=>
      obtain⟨lX3,qX3⟩:=oX3;obtain⟨v,rfl,⟨AX3,cX3,rfl,s5,hlenX3,hq1X3,hq2X3⟩,m5⟩:=h5;simp only[PR.bind] at hT
      try dsimp only at hT
      have hkX3:=HAX3.out _ _ rfl;have hknX3:kX3<=n:=by have:=HL.out;omega
      have YX3:=hid (Its.mono s5 (fun b hb=>Nat.le_trans (hsz V8.out.lt) hb));have S9:=hid (S8.out.go H.out m5 hknX3);have T9:=hid (T8.out.mv m5 hTB);have V9:=hid (V8.out.mv m5 hVB);have YX1:=hid (Its.mv YX1.out m5 hBb)
      (try clear k1 kz kl);(try clear t0 t1 t2 t3 t4 t5 tz tl);(try clear v0 v1 v2 v3 v4 v5 vz vl);have k1:=S9.out.cur.c1;have kz:=S9.out.cur.fz;have kl:=S9.out.cur.lt;obtain⟨t0,t1,t2,t3,t4,t5,tz,tl⟩:=T9.out;obtain⟨v0,v1,v2,v3,v4,v5,vz,vl⟩:=V9.out
      clear s5 m5
      try dsimp only
      have S10:=hid (HCO.out _ _ 4 (.slice AX3 lX3.length cX3) S9.out);have T10:=hid (T9.out.off hTV 4 (.slice AX3 lX3.length cX3));have V10:=hid (V9.out.set4 AX3 lX3.length cX3);have YX1:=hid (Its.off YX1.out hVb1 4 (.slice AX3 lX3.length cX3));have YX3:=hid (Its.off YX3.out hVb1 4 (.slice AX3 lX3.length cX3));by_cases hc3:0<=qX3
      ·rw[if_pos hc3] at hT;subst hT;have CF:=hid (fun W=>Fail_any 8 ((kX1:Int)+1) W)
       go_wp2_with (first
        | (go_at_call 44;((with_reducible refine (CF.out _).mono ?_);rintro e wz ⟨rfl,rfl⟩)))
       exact⟨by first | rfl | (congr 2),rfl,_,S10.out.mv⟩
      ·rw[if_neg hc3] at hT;have CP3:=hid (fun W (hW:CurAt W B A n c L (kX3))=>Peek_any B A n c L (kX3) W hW);by_cases h36:lookF L kX3=36
       ·rw[if_pos h36] at hT;rw[h36] at CP3;have hk36:kX3<n:=by have:=look_lt' h36 (by omega);have:=HL.out;omega
        have wk3:IntKind.i64.wrap ((kX3:Int)+1)=(kX3:Int)+1:=IntWalk.i64_in _ (by omega);clear h36;have hsp:spaceF L (kX3+1)<=n:=by have:=spaceF_le (L:=L) (k:=kX3+1) (by have:=HL.out;omega);have:=HL.out;omega
        have CSz:=hid (fun W (hW:CurAt W B A n c L (kX3+1))=>space_any B A n c L (kX3+1) W hW);generalize spaceF L (kX3+1)=jz at *;subst hT
        go_wp2_with (first
         | (go_at_call 46;((with_reducible refine (CP3.out _ S10.out.cur).mono ?_);rintro e w11 ⟨rfl,x11⟩;have S11:=hid (S10.out.ext x11);have T11:=hid (T10.out.ext x11);have V11:=hid (V10.out.ext x11);have YX1:=hid (Its.ext YX1.out x11);have YX3:=hid (Its.ext YX3.out x11);(try clear k1 kz kl);(try clear t0 t1 t2 t3 t4 t5 tz tl);(try clear v0 v1 v2 v3 v4 v5 vz vl);have k1:=S11.out.cur.c1;have kz:=S11.out.cur.fz;have kl:=S11.out.cur.lt;obtain⟨t0,t1,t2,t3,t4,t5,tz,tl⟩:=T11.out;obtain⟨v0,v1,v2,v3,v4,v5,vz,vl⟩:=V11.out;clear x11;have S12:=hid (S11.out.step H.out (x:=(kX3:Int)+1) (i:=kX3+1) (by omega) (by omega));have T12:=hid (T11.out.off hTB 1 (.int .i64 ((kX3:Int)+1)));have V12:=hid (V11.out.off hVB 1 (.int .i64 ((kX3:Int)+1)));have YX1:=hid (Its.off YX1.out hBb 1 (.int .i64 ((kX3:Int)+1)));have YX3:=hid (Its.off YX3.out hBb 1 (.int .i64 ((kX3:Int)+1)));skip;have S13:=hid (HCO.out _ _ 1 (.bool true) S12.out);have T13:=hid (T12.out.off hTV 1 (.bool true));have V13:=hid (V12.out.set1 true);have YX1:=hid (Its.off YX1.out hVb1 1 (.bool true));have YX3:=hid (Its.off YX3.out hVb1 1 (.bool true))))
         | (go_at_call 45;((with_reducible refine (CSz.out _ S13.out.cur).mono ?_);rintro e w14 ⟨rfl,m14⟩;have S14:=hid (S13.out.go H.out m14 hsp);have T14:=hid (T13.out.mv m14 hTB);have V14:=hid (V13.out.mv m14 hVB);have YX1:=hid (Its.mv YX1.out m14 hBb);have YX3:=hid (Its.mv YX3.out m14 hBb);(try clear k1 kz kl);(try clear t0 t1 t2 t3 t4 t5 tz tl);(try clear v0 v1 v2 v3 v4 v5 vz vl);have k1:=S14.out.cur.c1;have kz:=S14.out.cur.fz;have kl:=S14.out.cur.lt;obtain⟨t0,t1,t2,t3,t4,t5,tz,tl⟩:=T14.out;obtain⟨v0,v1,v2,v3,v4,v5,vz,vl⟩:=V14.out;clear m14)))
        have F0:=T14.out.set0 false;have F1:=F0.set1 true;have F2:=F1.set2 none 0 0;have F3:=F2.set3 AX1 lX1.length cX1;have F4:=F3.set4 AX3 lX3.length cX3;have F5:=F4.set5 qX1;have u0:=F0.h0;have u1:=F1.h1;have u2:=F2.h2;have u3:=F3.h3;have u4:=F4.h4;have u5:=F5.h5;refine bodyPost_ret (v:=.agg #[.bool false,.bool true,.slice none 0 0,.slice AX1 lX1.length cX1,.slice AX3 lX3.length cX3,.int .i64 qX1]) (by simp[results,Tryz.results80,go_sem,u0,u1,u2,u3,u4,u5]) rfl ?_;exact⟨_,rfl,⟨_,_,_,_,_,_,_,_,_,rfl,SdA.mono (SdA.keep ⟨SlR.nil _ _ _ _ _ _ (by unfold maxLen;omega),YX1.out,YX3.out,i64_cur hq1X1 hq2X1⟩ (HFIN.out _ _ _ _ _ _ _)) (fun b hb=>Nat.le_trans (show w.heap.size<=Vb+1 by rw[HTE.out];omega) hb)⟩,(HCT.out _ _ _ _ _ _ _ _ S14.out).mv⟩
       ·rw[if_neg h36] at hT;have n36:(lookF L kX3==36)=false:=by simpa using h36
        generalize lookF L kX3=r3 at *;clear h36;have hsp:spaceF L (kX3)<=n:=by have:=spaceF_le (L:=L) (k:=kX3) (by have:=HL.out;omega);have:=HL.out;omega
        have CSz:=hid (fun W (hW:CurAt W B A n c L (kX3))=>space_any B A n c L (kX3) W hW);generalize spaceF L (kX3)=jz at *;subst hT
        go_wp2_with (first
         | (go_at_call 46;((with_reducible refine (CP3.out _ S10.out.cur).mono ?_);rintro e w11 ⟨rfl,x11⟩;have S11:=hid (S10.out.ext x11);have T11:=hid (T10.out.ext x11);have V11:=hid (V10.out.ext x11);have YX1:=hid (Its.ext YX1.out x11);have YX3:=hid (Its.ext YX3.out x11);(try clear k1 kz kl);(try clear t0 t1 t2 t3 t4 t5 tz tl);(try clear v0 v1 v2 v3 v4 v5 vz vl);have k1:=S11.out.cur.c1;have kz:=S11.out.cur.fz;have kl:=S11.out.cur.lt;obtain⟨t0,t1,t2,t3,t4,t5,tz,tl⟩:=T11.out;obtain⟨v0,v1,v2,v3,v4,v5,vz,vl⟩:=V11.out;clear x11))
         | (go_at_call 45;((with_reducible refine (CSz.out _ S11.out.cur).mono ?_);rintro e w12 ⟨rfl,m12⟩;have S12:=hid (S11.out.go H.out m12 hsp);have T12:=hid (T11.out.mv m12 hTB);have V12:=hid (V11.out.mv m12 hVB);have YX1:=hid (Its.mv YX1.out m12 hBb);have YX3:=hid (Its.mv YX3.out m12 hBb);(try clear k1 kz kl);(try clear t0 t1 t2 t3 t4 t5 tz tl);(try clear v0 v1 v2 v3 v4 v5 vz vl);have k1:=S12.out.cur.c1;have kz:=S12.out.cur.fz;have kl:=S12.out.cur.lt;obtain⟨t0,t1,t2,t3,t4,t5,tz,tl⟩:=T12.out;obtain⟨v0,v1,v2,v3,v4,v5,vz,vl⟩:=V12.out;clear m12)))
        have F0:=T12.out.set0 false;have F1:=F0.set1 false;have F2:=F1.set2 none 0 0;have F3:=F2.set3 AX1 lX1.length cX1;have F4:=F3.set4 AX3 lX3.length cX3;have F5:=F4.set5 qX1;have u0:=F0.h0;have u1:=F1.h1;have u2:=F2.h2;have u3:=F3.h3;have u4:=F4.h4;have u5:=F5.h5;refine bodyPost_ret (v:=.agg #[.bool false,.bool false,.slice none 0 0,.slice AX1 lX1.length cX1,.slice AX3 lX3.length cX3,.int .i64 qX1]) (by simp[results,Tryz.results80,go_sem,u0,u1,u2,u3,u4,u5]) rfl ?_;exact⟨_,rfl,⟨_,_,_,_,_,_,_,_,_,rfl,SdA.mono (SdA.keep ⟨SlR.nil _ _ _ _ _ _ (by unfold maxLen;omega),YX1.out,YX3.out,i64_cur hq1X1 hq2X1⟩ (HFIN.out _ _ _ _ _ _ _)) (fun b hb=>Nat.le_trans (show w.heap.size<=Vb+1 by rw[HTE.out];omega) hb)⟩,(HCT.out _ _ _ _ _ _ _ _ S12.out).mv⟩
    ·rw[if_neg h125] at hT;have n125:(lookF L kX1==125)=false:=by simpa using h125
     generalize lookF L kX1=r2 at *;clear h125;have hsp:spaceF L (kX1)<=n:=by have:=spaceF_le (L:=L) (k:=kX1) (by have:=HL.out;omega);have:=HL.out;omega
     have CSz:=hid (fun W (hW:CurAt W B A n c L (kX1))=>space_any B A n c L (kX1) W hW);generalize spaceF L (kX1)=jz at *;subst hT
     go_wp2_with (first
      | (go_at_call 46;((with_reducible refine (CP2.out _ S6.out.cur).mono ?_);rintro e w7 ⟨rfl,x7⟩;have S7:=hid (S6.out.ext x7);have T7:=hid (T6.out.ext x7);have V7:=hid (V6.out.ext x7);have YX1:=hid (Its.ext YX1.out x7);(try clear k1 kz kl);(try clear t0 t1 t2 t3 t4 t5 tz tl);(try clear v0 v1 v2 v3 v4 v5 vz vl);have k1:=S7.out.cur.c1;have kz:=S7.out.cur.fz;have kl:=S7.out.cur.lt;obtain⟨t0,t1,t2,t3,t4,t5,tz,tl⟩:=T7.out;obtain⟨v0,v1,v2,v3,v4,v5,vz,vl⟩:=V7.out;clear x7))
      | (go_at_call 45;((with_reducible refine (CSz.out _ S7.out.cur).mono ?_);rintro e w8 ⟨rfl,m8⟩;have S8:=hid (S7.out.go H.out m8 hsp);have T8:=hid (T7.out.mv m8 hTB);have V8:=hid (V7.out.mv m8 hVB);have YX1:=hid (Its.mv YX1.out m8 hBb);(try clear k1 kz kl);(try clear t0 t1 t2 t3 t4 t5 tz tl);(try clear v0 v1 v2 v3 v4 v5 vz vl);have k1:=S8.out.cur.c1;have kz:=S8.out.cur.fz;have kl:=S8.out.cur.lt;obtain⟨t0,t1,t2,t3,t4,t5,tz,tl⟩:=T8.out;obtain⟨v0,v1,v2,v3,v4,v5,vz,vl⟩:=V8.out;clear m8)))
     have F0:=T8.out.set0 false;have F1:=F0.set1 false;have F2:=F1.set2 none 0 0;have F3:=F2.set3 AX1 lX1.length cX1;have F4:=F3.set4 none 0 0;have F5:=F4.set5 qX1;have u0:=F0.h0;have u1:=F1.h1;have u2:=F2.h2;have u3:=F3.h3;have u4:=F4.h4;have u5:=F5.h5;refine bodyPost_ret (v:=.agg #[.bool false,.bool false,.slice none 0 0,.slice AX1 lX1.length cX1,.slice none 0 0,.int .i64 qX1]) (by simp[results,Tryz.results80,go_sem,u0,u1,u2,u3,u4,u5]) rfl ?_;exact⟨_,rfl,⟨_,_,_,_,_,_,_,_,_,rfl,SdA.mono (SdA.keep ⟨SlR.nil _ _ _ _ _ _ (by unfold maxLen;omega),YX1.out,SlR.nil _ _ _ _ _ _ (by unfold maxLen;omega),i64_cur hq1X1 hq2X1⟩ (HFIN.out _ _ _ _ _ _ _)) (fun b hb=>Nat.le_trans (show w.heap.size<=Vb+1 by rw[HTE.out];omega) hb)⟩,(HCT.out _ _ _ _ _ _ _ _ S8.out).mv⟩
end Go.Proofs.YthomjcjnalfipaaGreatDoor
