/- A part of the proofs of the Top laws. -/
import Derived.Deep.RegionWith
import Derived.Test.YthomjcjnalfipaaGreatDoorRows
import Derived.ProofKit
import Derived.OpenShut
import Derived.ChangeOld
import Derived.Deep.Fields
import Derived.Test.YthomjcjnalfipaaGreatDoorYB22
set_option linter.all false
set_option maxRecDepth 100000
set_option maxHeartbeats 6400000
open Go.Lib (hid)
namespace Go.Proofs.YthomjcjnalfipaaGreatDoor
open Go.RowKit
structure PtBox (W:World) (b:Nat) (k:Int) (nm:ByteArray) (A:Option Addr) (n c:Nat) (d:Int) (s1 e1:Bool) (A1:Option Addr) (n1 c1:Nat) (A2:Option Addr) (n2 c2:Nat) (A3:Option Addr) (n3 c3:Nat) (q1:Int) (s2 e2:Bool) (A4:Option Addr) (n4 c4:Nat) (A5:Option Addr) (n5 c5:Nat) (A6:Option Addr) (n6 c6:Nat) (q2:Int):Prop where
 h0:W.cell? ⟨b,0,none⟩=some (.int .i64 k)
 h1:W.cell? ⟨b,1,none⟩=some (.string nm)
 h2:W.cell? ⟨b,2,none⟩=some (.slice A n c)
 h3:W.cell? ⟨b,3,none⟩=some (.int .i64 d)
 h4:W.cell? ⟨b,4,none⟩=some (.bool s1)
 h5:W.cell? ⟨b,5,none⟩=some (.bool e1)
 h6:W.cell? ⟨b,6,none⟩=some (.slice A1 n1 c1)
 h7:W.cell? ⟨b,7,none⟩=some (.slice A2 n2 c2)
 h8:W.cell? ⟨b,8,none⟩=some (.slice A3 n3 c3)
 h9:W.cell? ⟨b,9,none⟩=some (.int .i64 q1)
 h10:W.cell? ⟨b,10,none⟩=some (.bool s2)
 h11:W.cell? ⟨b,11,none⟩=some (.bool e2)
 h12:W.cell? ⟨b,12,none⟩=some (.slice A4 n4 c4)
 h13:W.cell? ⟨b,13,none⟩=some (.slice A5 n5 c5)
 h14:W.cell? ⟨b,14,none⟩=some (.slice A6 n6 c6)
 h15:W.cell? ⟨b,15,none⟩=some (.int .i64 q2)
 lt:b<W.heap.size/\b≠W.heap.size
section
variable {W W' : World} {b : Nat} {k : Int} {nm : ByteArray} {A : Option Addr} {n c : Nat} {d : Int} {s1 e1 : Bool} {A1 : Option Addr} {n1 c1 : Nat} {A2 : Option Addr} {n2 c2 : Nat} {A3 : Option Addr} {n3 c3 : Nat} {q1 : Int} {s2 e2 : Bool} {A4 : Option Addr} {n4 c4 : Nat} {A5 : Option Addr} {n5 c5 : Nat} {A6 : Option Addr} {n6 c6 : Nat} {q2 : Int}
theorem PtBox.ext (h:PtBox W b k nm A n c d s1 e1 A1 n1 c1 A2 n2 c2 A3 n3 c3 q1 s2 e2 A4 n4 c4 A5 n5 c5 A6 n6 c6 q2) (e:Ext W W'):PtBox W' b k nm A n c d s1 e1 A1 n1 c1 A2 n2 c2 A3 n3 c3 q1 s2 e2 A4 n4 c4 A5 n5 c5 A6 n6 c6 q2:=
 ⟨e.cell h.h0,e.cell h.h1,e.cell h.h2,e.cell h.h3,e.cell h.h4,e.cell h.h5,e.cell h.h6,e.cell h.h7,e.cell h.h8,e.cell h.h9,e.cell h.h10,e.cell h.h11,e.cell h.h12,e.cell h.h13,e.cell h.h14,e.cell h.h15,by have:=e.size;have:=h.lt;omega⟩
theorem PtBox.new (w:World) (k:Int) (nm:ByteArray) (A:Option Addr) (n c:Nat) (d:Int) (s1 e1:Bool) (A1:Option Addr) (n1 c1:Nat) (A2:Option Addr) (n2 c2:Nat) (A3:Option Addr) (n3 c3:Nat) (q1:Int) (s2 e2:Bool) (A4:Option Addr) (n4 c4:Nat) (A5:Option Addr) (n5 c5:Nat) (A6:Option Addr) (n6 c6:Nat) (q2:Int):PtBox (w.alloc (.cells #[.int .i64 k,.string nm,.slice A n c,.int .i64 d,.bool s1,.bool e1,.slice A1 n1 c1,.slice A2 n2 c2,.slice A3 n3 c3,.int .i64 q1,.bool s2,.bool e2,.slice A4 n4 c4,.slice A5 n5 c5,.slice A6 n6 c6,.int .i64 q2] 111)) w.heap.size k nm A n c d s1 e1 A1 n1 c1 A2 n2 c2 A3 n3 c3 q1 s2 e2 A4 n4 c4 A5 n5 c5 A6 n6 c6 q2:=by
 constructor <;> first | exact cell_new _ _ _ _ _ rfl | simp
end
theorem sideW_len {s:Side} {m:Bool} (h:sideW s m=0):s.before.length<=20/\s.after.length<=20:=by
 by_cases hz:rowsW [s.before,s.source,s.after]=0
 ·have key:∀ l:List It,itemsW l=0->l.length<=20:=fun l hl=>by
   unfold itemsW at hl;by_cases hb:20<l.length
   ·rw[if_pos hb] at hl;cases hl
   ·omega
  have h1:itemsW s.before=0:=by
   by_cases h1:itemsW s.before=0
   ·exact h1
   ·rw[rowsW_bad h1] at hz;exact hz
  rw[rowsW_ok h1] at hz
  have h2:itemsW s.source=0:=by
   by_cases h2:itemsW s.source=0
   ·exact h2
   ·rw[rowsW_bad h2] at hz;exact hz
  rw[rowsW_ok h2] at hz
  have h3:itemsW s.after=0:=by
   by_cases h3:itemsW s.after=0
   ·exact h3
   ·rw[rowsW_bad h3] at hz;exact hz
  exact⟨key _ h1,key _ h3⟩
 ·rw[sideW_rows hz] at h;exact absurd h hz
theorem partW_any {ok:Nat->Prop} {w:World} {A:Option Addr} {n c:Nat} {p:Part} (hp:PtA ok w A n c p) {A1 A2 A3:Option Addr} {n1 c1 n2 c2 n3 c3:Nat} (hl:SdA ok w A1 n1 c1 A2 n2 c2 A3 n3 c3 p.left) {A4 A5 A6:Option Addr} {n4 c4 n5 c5 n6 c6:Nat} (hr:SdA ok w A4 n4 c4 A5 n5 c5 A6 n6 c6 p.right) :
  Calls Tryz.prog 82 #[.agg #[.int .i64 p.kind,.string p.name,.slice A n c,.int .i64 p.dir,.bool p.left.st,.bool p.left.en,.slice A1 n1 c1,.slice A2 n2 c2,.slice A3 n3 c3,.int .i64 p.left.cursor,.bool p.right.st,.bool p.right.en,.slice A4 n4 c4,.slice A5 n5 c5,.slice A6 n6 c6,.int .i64 p.right.cursor]] w
   fun e w'=>e=.returned (.int .i64 (partW p))/\Ext w w':=by
 obtain⟨k,nm,set,d,L,R⟩:=p;have HSET:=hid (show Spans w A n c set from hp.set.mono (fun _ _ h=>h) (fun _ _=>trivial));dsimp only at hl hr ⊢;have HL:=hid hl;have HR:=hid hr;have HN:=hid (fun W=>Named_any nm W);obtain⟨V,hV⟩:∃ V,V=partW ⟨k,nm,set,d,L,R⟩:=⟨_,rfl⟩
 rw[<- hV];unfold partW at hV;dsimp only at hV;obtain⟨s1,e1,bf1,sr1,af1,q1⟩:=L;obtain⟨s2,e2,bf2,sr2,af2,q2⟩:=R;dsimp only;have PB0:=hid (PtBox.new w k nm A n c d s1 e1 A1 n1 c1 A2 n2 c2 A3 n3 c3 q1 s2 e2 A4 n4 c4 A5 n5 c5 A6 n6 c6 q2);have X0:=hid ((Ext.refl w).alloc (.cells #[.int .i64 k,.string nm,.slice A n c,.int .i64 d,.bool s1,.bool e1,.slice A1 n1 c1,.slice A2 n2 c2,.slice A3 n3 c3,.int .i64 q1,.bool s2,.bool e2,.slice A4 n4 c4,.slice A5 n5 c5,.slice A6 n6 c6,.int .i64 q2] 111));have CW:=hid (fun W (e:Ext w W)=>setsWrong_any A n c set W (HSET.out.ext e));obtain⟨L,hLe⟩:∃ L:Side,L=⟨s1,e1,bf1,sr1,af1,q1⟩:=⟨_,rfl⟩
 obtain⟨R,hRe⟩:∃ R:Side,R=⟨s2,e2,bf2,sr2,af2,q2⟩:=⟨_,rfl⟩
 have CL:=hid (fun W (e:Ext w W) (m:Bool)=>sideW_any (HL.out.ext e) m);have CR:=hid (fun W (e:Ext w W) (m:Bool)=>sideW_any (HR.out.ext e) m);have TL:=hid (fun W (e:Ext w W)=>told_any (HL.out.ext e));have TR:=hid (fun W (e:Ext w W)=>told_any (HR.out.ext e))
 have HBL:Hid (sideW L (d != 2)=0->∀ W,Calls Tryz.prog 121 #[.agg #[.bool s1,.bool e1,.slice A1 n1 c1,.slice A2 n2 c2,.slice A3 n3 c3,.int .i64 q1]] W fun e w'=>e=.returned (.bool (bareB L))/\Ext W w'):=hid (fun hz W=>by
  subst hLe;have hb:=sideW_len hz
  exact bare_any (s:=⟨s1,e1,bf1,sr1,af1,q1⟩) HL.out.before.len HL.out.after.len (by rw[<- HL.out.before.len];exact hb.1) (by rw[<- HL.out.after.len];exact hb.2))
 have HBR:Hid (sideW R (d != 1)=0->∀ W,Calls Tryz.prog 121 #[.agg #[.bool s2,.bool e2,.slice A4 n4 c4,.slice A5 n5 c5,.slice A6 n6 c6,.int .i64 q2]] W fun e w'=>e=.returned (.bool (bareB R))/\Ext W w'):=hid (fun hz W=>by
  subst hRe;have hb:=sideW_len hz
  exact bare_any (s:=⟨s2,e2,bf2,sr2,af2,q2⟩) HR.out.before.len HR.out.after.len (by rw[<- HR.out.before.len];exact hb.1) (by rw[<- HR.out.after.len];exact hb.2))
 dsimp only at CL CR TL TR;rw[<- hLe] at hV CL TL;rw[<- hRe] at hV CR TR;have HQL:Hid (L.cursor=q1):=hid (by rw[hLe]);have HQR:Hid (R.cursor=q2):=hid (by rw[hRe]);clear hp hl hr hLe hRe HL HR HSET;by_cases k1:k=1
 ·rw[if_pos k1] at hV;subst k1;cases hb:namedB nm
  ·rw[hb] at hV HN;subst hV;clear hb;go_enter Tryz.func82,Tryz.ntmps82
   go_wp2_with (first
    | (go_at_call 117;((with_reducible refine (HN.out _).mono ?_);rintro e w2 ⟨rfl,rfl⟩)))
   go_ret;exact⟨rfl,X0.out⟩
  ·rw[hb] at hV HN;simp only[if_true] at hV;rw[<- hV] at CW;clear hb hV;go_enter Tryz.func82,Tryz.ntmps82
   go_wp2_with (first
    | (go_at_call 117;((with_reducible refine (HN.out _).mono ?_);rintro e w2 ⟨rfl,rfl⟩))
    | (go_at_call 50;((with_reducible refine (CW.out _ X0.out).mono ?_);rintro e w3 ⟨rfl,x3⟩;have X3:=hid (X0.out.trans x3);clear x3)))
   go_ret;exact⟨rfl,X3.out⟩
 rw[if_neg k1] at hV;have m1:(k==1)=false:=by simpa using k1
 by_cases k3:k=3
 ·rw[if_pos k3] at hV;subst k3;rw[<- hV] at CW;clear hV;go_enter Tryz.func82,Tryz.ntmps82
  go_wp2_with (first
   | (go_at_call 50;((with_reducible refine (CW.out _ X0.out).mono ?_);rintro e w3 ⟨rfl,x3⟩;have X3:=hid (X0.out.trans x3);clear x3)))
  go_ret;exact⟨rfl,X3.out⟩
 rw[if_neg k3] at hV;have m3:(k==3)=false:=by simpa using k3
 by_cases k4:k=4
 ·rw[if_pos k4] at hV;subst k4;have HI:=hid (isPass_any nm);cases hb:isPass nm
  all_goals
   rw[hb] at hV;simp only[Bool.false_eq_true,if_false,if_true] at hV;subst hV;have HV:=hid hb;clear hb;go_enter Tryz.func82,Tryz.ntmps82;go_wp2
   go_region_with (first
    | (go_at_call 52;((refine (Passes_any _).mono ?_);rintro e w2 ⟨A9,c9,rfl,s9,x2⟩;have PB2:=hid (PB0.out.ext (by first | exact x2 | exact (Ext.refl _).drew.trans x2));have X2:=hid (X0.out.trans (by first | exact x2 | exact (Ext.refl _).drew.trans x2));have HC:=hid (ContainsS_any A9 4 c9 passS nm w2 s9);rw[HI.out,HV.out] at HC;obtain⟨a0,a1,a2,a3,a4,a5,a6,a7,a8,a9,a10,a11,a12,a13,a14,a15,al⟩:=PB2.out;clear s9 x2))
    | (go_at_call 51;((refine (HC.out).mono ?_);rintro e w3 ⟨rfl,rfl⟩)))
   all_goals
    go_wp2;go_ret;exact⟨rfl,X2.out⟩
 rw[if_neg k4] at hV;have m4:(k==4)=false:=by simpa using k4
 clear HN CW;by_cases k2:k=2
 ·rw[if_pos k2] at hV;subst k2;unfold ruleW at hV;dsimp only at hV;by_cases d1:d<1
  ·rw[if_pos (.inl d1)] at hV;subst hV;go_enter Tryz.func82,Tryz.ntmps82;go_wp2;go_ret;exact⟨rfl,X0.out⟩
  by_cases d3:3<d
  ·rw[if_pos (.inr d3)] at hV;subst hV;go_enter Tryz.func82,Tryz.ntmps82;go_wp2;go_ret;exact⟨rfl,X0.out⟩
  rw[if_neg (by omega)] at hV;have hd:d=1\/d=2\/d=3:=by omega
  clear d1 d3;rcases hd with rfl | rfl | rfl
  ·rw[show ((1:Int) != 2)=true from rfl,show ((1:Int) != 1)=false from rfl] at *;by_cases hl:sideW L true=0
   ·rw[if_neg (by simp[hl])] at hV;have CL:=hid (fun W (e:Ext w W)=>CL.out W e true);rw[hl] at CL;have HBL:=hid (HBL.out hl);clear hl;by_cases hr:sideW R false=0
    ·rw[if_neg (by simp[hr])] at hV;have CR:=hid (fun W (e:Ext w W)=>CR.out W e false);rw[hr] at CR;have HBR:=hid (HBR.out hr);clear hr;unfold fitB at hV;simp only[HQL.out,HQR.out] at hV;rw[show ((1:Int) != 2)=true from rfl,show ((1:Int) != 1)=false from rfl] at hV;simp only[Bool.true_and,Bool.false_and,Bool.not_true,Bool.not_false,Bool.or_false,Bool.false_or] at hV;cases hc0:toldB R
     ·rw[hc0] at hV TR;simp at hV;subst hV;clear hc0;go_enter Tryz.func82,Tryz.ntmps82;go_wp2;go_quiet (fail)
      go_wp2_with (first
       | (go_at_call 119;((with_reducible refine (CL.out _ (X0.out.drewN _)).mono ?_);rintro e w1 ⟨rfl,x1⟩;have PB1:=hid (PB0.out.ext (((Ext.refl _).drewN _).trans x1));have X1:=hid ((X0.out.drewN _).trans x1);obtain⟨b0,b1,b2,b3,b4,b5,b6,b7,b8,b9,b10,b11,b12,b13,b14,b15,bl⟩:=PB1.out;clear x1))
       | (go_at_call 119;((with_reducible refine (CR.out _ X1.out).mono ?_);rintro e w2 ⟨rfl,x2⟩;try clear b0 b1 b2 b3 b4 b5 b6 b7 b8 b9 b10 b11 b12 b13 b14 b15 bl;have PB2:=hid (PB1.out.ext x2);have X2:=hid (X1.out.trans x2);obtain⟨b0,b1,b2,b3,b4,b5,b6,b7,b8,b9,b10,b11,b12,b13,b14,b15,bl⟩:=PB2.out;clear x2))
       | (go_at_call 120;((with_reducible refine (TR.out _ X2.out).mono ?_);rintro e w3 ⟨rfl,x3⟩;try clear b0 b1 b2 b3 b4 b5 b6 b7 b8 b9 b10 b11 b12 b13 b14 b15 bl;have PB3:=hid (PB2.out.ext x3);have X3:=hid (X2.out.trans x3);obtain⟨b0,b1,b2,b3,b4,b5,b6,b7,b8,b9,b10,b11,b12,b13,b14,b15,bl⟩:=PB3.out;clear x3)))
      go_ret;exact⟨rfl,X3.out⟩
     rw[hc0] at hV TR;simp only[Bool.not_true,Bool.false_or] at hV;clear hc0;cases hc1:bareB R
     ·rw[hc1] at hV HBR;simp at hV;subst hV;clear hc1;go_enter Tryz.func82,Tryz.ntmps82;go_wp2;go_quiet (fail)
      go_wp2_with (first
       | (go_at_call 119;((with_reducible refine (CL.out _ (X0.out.drewN _)).mono ?_);rintro e w1 ⟨rfl,x1⟩;have PB1:=hid (PB0.out.ext (((Ext.refl _).drewN _).trans x1));have X1:=hid ((X0.out.drewN _).trans x1);obtain⟨b0,b1,b2,b3,b4,b5,b6,b7,b8,b9,b10,b11,b12,b13,b14,b15,bl⟩:=PB1.out;clear x1))
       | (go_at_call 119;((with_reducible refine (CR.out _ X1.out).mono ?_);rintro e w2 ⟨rfl,x2⟩;try clear b0 b1 b2 b3 b4 b5 b6 b7 b8 b9 b10 b11 b12 b13 b14 b15 bl;have PB2:=hid (PB1.out.ext x2);have X2:=hid (X1.out.trans x2);obtain⟨b0,b1,b2,b3,b4,b5,b6,b7,b8,b9,b10,b11,b12,b13,b14,b15,bl⟩:=PB2.out;clear x2))
       | (go_at_call 120;((with_reducible refine (TR.out _ X2.out).mono ?_);rintro e w3 ⟨rfl,x3⟩;try clear b0 b1 b2 b3 b4 b5 b6 b7 b8 b9 b10 b11 b12 b13 b14 b15 bl;have PB3:=hid (PB2.out.ext x3);have X3:=hid (X2.out.trans x3);obtain⟨b0,b1,b2,b3,b4,b5,b6,b7,b8,b9,b10,b11,b12,b13,b14,b15,bl⟩:=PB3.out;clear x3))
       | (go_at_call 121;((with_reducible refine (HBR.out _).mono ?_);rintro e w4 ⟨rfl,x4⟩;try clear b0 b1 b2 b3 b4 b5 b6 b7 b8 b9 b10 b11 b12 b13 b14 b15 bl;have PB4:=hid (PB3.out.ext x4);have X4:=hid (X3.out.trans x4);obtain⟨b0,b1,b2,b3,b4,b5,b6,b7,b8,b9,b10,b11,b12,b13,b14,b15,bl⟩:=PB4.out;clear x4)))
      go_ret;exact⟨rfl,X4.out⟩
     rw[hc1] at hV HBR;simp only[Bool.not_true,Bool.false_or] at hV;clear hc1;by_cases hc2:0<=q1
     ·rw[decide_eq_true hc2] at hV;simp at hV;subst hV;go_enter Tryz.func82,Tryz.ntmps82;go_wp2;go_quiet (fail)
      go_wp2_with (first
       | (go_at_call 119;((with_reducible refine (CL.out _ (X0.out.drewN _)).mono ?_);rintro e w1 ⟨rfl,x1⟩;have PB1:=hid (PB0.out.ext (((Ext.refl _).drewN _).trans x1));have X1:=hid ((X0.out.drewN _).trans x1);obtain⟨b0,b1,b2,b3,b4,b5,b6,b7,b8,b9,b10,b11,b12,b13,b14,b15,bl⟩:=PB1.out;clear x1))
       | (go_at_call 119;((with_reducible refine (CR.out _ X1.out).mono ?_);rintro e w2 ⟨rfl,x2⟩;try clear b0 b1 b2 b3 b4 b5 b6 b7 b8 b9 b10 b11 b12 b13 b14 b15 bl;have PB2:=hid (PB1.out.ext x2);have X2:=hid (X1.out.trans x2);obtain⟨b0,b1,b2,b3,b4,b5,b6,b7,b8,b9,b10,b11,b12,b13,b14,b15,bl⟩:=PB2.out;clear x2))
       | (go_at_call 120;((with_reducible refine (TR.out _ X2.out).mono ?_);rintro e w3 ⟨rfl,x3⟩;try clear b0 b1 b2 b3 b4 b5 b6 b7 b8 b9 b10 b11 b12 b13 b14 b15 bl;have PB3:=hid (PB2.out.ext x3);have X3:=hid (X2.out.trans x3);obtain⟨b0,b1,b2,b3,b4,b5,b6,b7,b8,b9,b10,b11,b12,b13,b14,b15,bl⟩:=PB3.out;clear x3))
       | (go_at_call 121;((with_reducible refine (HBR.out _).mono ?_);rintro e w4 ⟨rfl,x4⟩;try clear b0 b1 b2 b3 b4 b5 b6 b7 b8 b9 b10 b11 b12 b13 b14 b15 bl;have PB4:=hid (PB3.out.ext x4);have X4:=hid (X3.out.trans x4);obtain⟨b0,b1,b2,b3,b4,b5,b6,b7,b8,b9,b10,b11,b12,b13,b14,b15,bl⟩:=PB4.out;clear x4)))
      go_ret;exact⟨rfl,X4.out⟩
     ·rw[decide_eq_false hc2] at hV;simp at hV;subst hV;go_enter Tryz.func82,Tryz.ntmps82;go_wp2;go_quiet (fail)
      go_wp2_with (first
       | (go_at_call 119;((with_reducible refine (CL.out _ (X0.out.drewN _)).mono ?_);rintro e w1 ⟨rfl,x1⟩;have PB1:=hid (PB0.out.ext (((Ext.refl _).drewN _).trans x1));have X1:=hid ((X0.out.drewN _).trans x1);obtain⟨b0,b1,b2,b3,b4,b5,b6,b7,b8,b9,b10,b11,b12,b13,b14,b15,bl⟩:=PB1.out;clear x1))
       | (go_at_call 119;((with_reducible refine (CR.out _ X1.out).mono ?_);rintro e w2 ⟨rfl,x2⟩;try clear b0 b1 b2 b3 b4 b5 b6 b7 b8 b9 b10 b11 b12 b13 b14 b15 bl;have PB2:=hid (PB1.out.ext x2);have X2:=hid (X1.out.trans x2);obtain⟨b0,b1,b2,b3,b4,b5,b6,b7,b8,b9,b10,b11,b12,b13,b14,b15,bl⟩:=PB2.out;clear x2))
       | (go_at_call 120;((with_reducible refine (TR.out _ X2.out).mono ?_);rintro e w3 ⟨rfl,x3⟩;try clear b0 b1 b2 b3 b4 b5 b6 b7 b8 b9 b10 b11 b12 b13 b14 b15 bl;have PB3:=hid (PB2.out.ext x3);have X3:=hid (X2.out.trans x3);obtain⟨b0,b1,b2,b3,b4,b5,b6,b7,b8,b9,b10,b11,b12,b13,b14,b15,bl⟩:=PB3.out;clear x3))
       | (go_at_call 121;((with_reducible refine (HBR.out _).mono ?_);rintro e w4 ⟨rfl,x4⟩;try clear b0 b1 b2 b3 b4 b5 b6 b7 b8 b9 b10 b11 b12 b13 b14 b15 bl;have PB4:=hid (PB3.out.ext x4);have X4:=hid (X3.out.trans x4);obtain⟨b0,b1,b2,b3,b4,b5,b6,b7,b8,b9,b10,b11,b12,b13,b14,b15,bl⟩:=PB4.out;clear x4)))
      go_ret;exact⟨rfl,X4.out⟩
    ·rw[if_pos hr] at hV;have CR:=hid (fun W (e:Ext w W)=>CR.out W e false);rw[<- hV] at CR hr;have g:(V != 0)=true:=by simpa using hr
     clear hV hr;go_enter Tryz.func82,Tryz.ntmps82;go_wp2;go_quiet (fail)
     go_wp2_with (first
      | (go_at_call 119;((with_reducible refine (CL.out _ (X0.out.drewN _)).mono ?_);rintro e w1 ⟨rfl,x1⟩;have PB1:=hid (PB0.out.ext (((Ext.refl _).drewN _).trans x1));have X1:=hid ((X0.out.drewN _).trans x1);obtain⟨b0,b1,b2,b3,b4,b5,b6,b7,b8,b9,b10,b11,b12,b13,b14,b15,bl⟩:=PB1.out;clear x1))
      | (go_at_call 119;((with_reducible refine (CR.out _ X1.out).mono ?_);rintro e w2 ⟨rfl,x2⟩;try clear b0 b1 b2 b3 b4 b5 b6 b7 b8 b9 b10 b11 b12 b13 b14 b15 bl;have PB2:=hid (PB1.out.ext x2);have X2:=hid (X1.out.trans x2);obtain⟨b0,b1,b2,b3,b4,b5,b6,b7,b8,b9,b10,b11,b12,b13,b14,b15,bl⟩:=PB2.out;clear x2)))
     go_ret;exact⟨rfl,X2.out⟩
   ·rw[if_pos hl] at hV;have CL:=hid (fun W (e:Ext w W)=>CL.out W e true);rw[<- hV] at CL hl;have g:(V != 0)=true:=by simpa using hl
    clear hV hl;go_enter Tryz.func82,Tryz.ntmps82;go_wp2;go_quiet (fail)
    go_wp2_with (first
     | (go_at_call 119;((with_reducible refine (CL.out _ (X0.out.drewN _)).mono ?_);rintro e w1 ⟨rfl,x1⟩;have PB1:=hid (PB0.out.ext (((Ext.refl _).drewN _).trans x1));have X1:=hid ((X0.out.drewN _).trans x1);obtain⟨b0,b1,b2,b3,b4,b5,b6,b7,b8,b9,b10,b11,b12,b13,b14,b15,bl⟩:=PB1.out;clear x1)))
    go_ret;exact⟨rfl,X1.out⟩
  ·rw[show ((2:Int) != 2)=false from rfl,show ((2:Int) != 1)=true from rfl] at *;by_cases hl:sideW L false=0
   ·rw[if_neg (by simp[hl])] at hV;have CL:=hid (fun W (e:Ext w W)=>CL.out W e false);rw[hl] at CL;have HBL:=hid (HBL.out hl);clear hl;by_cases hr:sideW R true=0
    ·rw[if_neg (by simp[hr])] at hV;have CR:=hid (fun W (e:Ext w W)=>CR.out W e true);rw[hr] at CR;have HBR:=hid (HBR.out hr);clear hr;unfold fitB at hV;simp only[HQL.out,HQR.out] at hV;rw[show ((2:Int) != 2)=false from rfl,show ((2:Int) != 1)=true from rfl] at hV;simp only[Bool.true_and,Bool.false_and,Bool.not_true,Bool.not_false,Bool.or_false,Bool.false_or] at hV;cases hc0:toldB L
     ·rw[hc0] at hV TL;simp at hV;subst hV;clear hc0;go_enter Tryz.func82,Tryz.ntmps82;go_wp2;go_quiet (fail)
      go_wp2_with (first
       | (go_at_call 119;((with_reducible refine (CL.out _ (X0.out.drewN _)).mono ?_);rintro e w1 ⟨rfl,x1⟩;have PB1:=hid (PB0.out.ext (((Ext.refl _).drewN _).trans x1));have X1:=hid ((X0.out.drewN _).trans x1);obtain⟨b0,b1,b2,b3,b4,b5,b6,b7,b8,b9,b10,b11,b12,b13,b14,b15,bl⟩:=PB1.out;clear x1))
       | (go_at_call 119;((with_reducible refine (CR.out _ X1.out).mono ?_);rintro e w2 ⟨rfl,x2⟩;try clear b0 b1 b2 b3 b4 b5 b6 b7 b8 b9 b10 b11 b12 b13 b14 b15 bl;have PB2:=hid (PB1.out.ext x2);have X2:=hid (X1.out.trans x2);obtain⟨b0,b1,b2,b3,b4,b5,b6,b7,b8,b9,b10,b11,b12,b13,b14,b15,bl⟩:=PB2.out;clear x2))
       | (go_at_call 120;((with_reducible refine (TL.out _ X2.out).mono ?_);rintro e w3 ⟨rfl,x3⟩;try clear b0 b1 b2 b3 b4 b5 b6 b7 b8 b9 b10 b11 b12 b13 b14 b15 bl;have PB3:=hid (PB2.out.ext x3);have X3:=hid (X2.out.trans x3);obtain⟨b0,b1,b2,b3,b4,b5,b6,b7,b8,b9,b10,b11,b12,b13,b14,b15,bl⟩:=PB3.out;clear x3)))
      go_ret;exact⟨rfl,X3.out⟩
     rw[hc0] at hV TL;simp only[Bool.not_true,Bool.false_or] at hV;clear hc0;cases hc1:bareB L
     ·rw[hc1] at hV HBL;simp at hV;subst hV;clear hc1;go_enter Tryz.func82,Tryz.ntmps82;go_wp2;go_quiet (fail)
      go_wp2_with (first
       | (go_at_call 119;((with_reducible refine (CL.out _ (X0.out.drewN _)).mono ?_);rintro e w1 ⟨rfl,x1⟩;have PB1:=hid (PB0.out.ext (((Ext.refl _).drewN _).trans x1));have X1:=hid ((X0.out.drewN _).trans x1);obtain⟨b0,b1,b2,b3,b4,b5,b6,b7,b8,b9,b10,b11,b12,b13,b14,b15,bl⟩:=PB1.out;clear x1))
       | (go_at_call 119;((with_reducible refine (CR.out _ X1.out).mono ?_);rintro e w2 ⟨rfl,x2⟩;try clear b0 b1 b2 b3 b4 b5 b6 b7 b8 b9 b10 b11 b12 b13 b14 b15 bl;have PB2:=hid (PB1.out.ext x2);have X2:=hid (X1.out.trans x2);obtain⟨b0,b1,b2,b3,b4,b5,b6,b7,b8,b9,b10,b11,b12,b13,b14,b15,bl⟩:=PB2.out;clear x2))
       | (go_at_call 120;((with_reducible refine (TL.out _ X2.out).mono ?_);rintro e w3 ⟨rfl,x3⟩;try clear b0 b1 b2 b3 b4 b5 b6 b7 b8 b9 b10 b11 b12 b13 b14 b15 bl;have PB3:=hid (PB2.out.ext x3);have X3:=hid (X2.out.trans x3);obtain⟨b0,b1,b2,b3,b4,b5,b6,b7,b8,b9,b10,b11,b12,b13,b14,b15,bl⟩:=PB3.out;clear x3))
       | (go_at_call 121;((with_reducible refine (HBL.out _).mono ?_);rintro e w4 ⟨rfl,x4⟩;try clear b0 b1 b2 b3 b4 b5 b6 b7 b8 b9 b10 b11 b12 b13 b14 b15 bl;have PB4:=hid (PB3.out.ext x4);have X4:=hid (X3.out.trans x4);obtain⟨b0,b1,b2,b3,b4,b5,b6,b7,b8,b9,b10,b11,b12,b13,b14,b15,bl⟩:=PB4.out;clear x4)))
      go_ret;exact⟨rfl,X4.out⟩
     rw[hc1] at hV HBL;simp only[Bool.not_true,Bool.false_or] at hV;clear hc1;by_cases hc2:0<=q2
     ·rw[decide_eq_true hc2] at hV;simp at hV;subst hV;go_enter Tryz.func82,Tryz.ntmps82;go_wp2;go_quiet (fail)
      go_wp2_with (first
       | (go_at_call 119;((with_reducible refine (CL.out _ (X0.out.drewN _)).mono ?_);rintro e w1 ⟨rfl,x1⟩;have PB1:=hid (PB0.out.ext (((Ext.refl _).drewN _).trans x1));have X1:=hid ((X0.out.drewN _).trans x1);obtain⟨b0,b1,b2,b3,b4,b5,b6,b7,b8,b9,b10,b11,b12,b13,b14,b15,bl⟩:=PB1.out;clear x1))
       | (go_at_call 119;((with_reducible refine (CR.out _ X1.out).mono ?_);rintro e w2 ⟨rfl,x2⟩;try clear b0 b1 b2 b3 b4 b5 b6 b7 b8 b9 b10 b11 b12 b13 b14 b15 bl;have PB2:=hid (PB1.out.ext x2);have X2:=hid (X1.out.trans x2);obtain⟨b0,b1,b2,b3,b4,b5,b6,b7,b8,b9,b10,b11,b12,b13,b14,b15,bl⟩:=PB2.out;clear x2))
       | (go_at_call 120;((with_reducible refine (TL.out _ X2.out).mono ?_);rintro e w3 ⟨rfl,x3⟩;try clear b0 b1 b2 b3 b4 b5 b6 b7 b8 b9 b10 b11 b12 b13 b14 b15 bl;have PB3:=hid (PB2.out.ext x3);have X3:=hid (X2.out.trans x3);obtain⟨b0,b1,b2,b3,b4,b5,b6,b7,b8,b9,b10,b11,b12,b13,b14,b15,bl⟩:=PB3.out;clear x3))
       | (go_at_call 121;((with_reducible refine (HBL.out _).mono ?_);rintro e w4 ⟨rfl,x4⟩;try clear b0 b1 b2 b3 b4 b5 b6 b7 b8 b9 b10 b11 b12 b13 b14 b15 bl;have PB4:=hid (PB3.out.ext x4);have X4:=hid (X3.out.trans x4);obtain⟨b0,b1,b2,b3,b4,b5,b6,b7,b8,b9,b10,b11,b12,b13,b14,b15,bl⟩:=PB4.out;clear x4)))
      go_ret;exact⟨rfl,X4.out⟩
     ·rw[decide_eq_false hc2] at hV;simp at hV;subst hV;go_enter Tryz.func82,Tryz.ntmps82;go_wp2;go_quiet (fail)
      go_wp2_with (first
       | (go_at_call 119;((with_reducible refine (CL.out _ (X0.out.drewN _)).mono ?_);rintro e w1 ⟨rfl,x1⟩;have PB1:=hid (PB0.out.ext (((Ext.refl _).drewN _).trans x1));have X1:=hid ((X0.out.drewN _).trans x1);obtain⟨b0,b1,b2,b3,b4,b5,b6,b7,b8,b9,b10,b11,b12,b13,b14,b15,bl⟩:=PB1.out;clear x1))
       | (go_at_call 119;((with_reducible refine (CR.out _ X1.out).mono ?_);rintro e w2 ⟨rfl,x2⟩;try clear b0 b1 b2 b3 b4 b5 b6 b7 b8 b9 b10 b11 b12 b13 b14 b15 bl;have PB2:=hid (PB1.out.ext x2);have X2:=hid (X1.out.trans x2);obtain⟨b0,b1,b2,b3,b4,b5,b6,b7,b8,b9,b10,b11,b12,b13,b14,b15,bl⟩:=PB2.out;clear x2))
       | (go_at_call 120;((with_reducible refine (TL.out _ X2.out).mono ?_);rintro e w3 ⟨rfl,x3⟩;try clear b0 b1 b2 b3 b4 b5 b6 b7 b8 b9 b10 b11 b12 b13 b14 b15 bl;have PB3:=hid (PB2.out.ext x3);have X3:=hid (X2.out.trans x3);obtain⟨b0,b1,b2,b3,b4,b5,b6,b7,b8,b9,b10,b11,b12,b13,b14,b15,bl⟩:=PB3.out;clear x3))
       | (go_at_call 121;((with_reducible refine (HBL.out _).mono ?_);rintro e w4 ⟨rfl,x4⟩;try clear b0 b1 b2 b3 b4 b5 b6 b7 b8 b9 b10 b11 b12 b13 b14 b15 bl;have PB4:=hid (PB3.out.ext x4);have X4:=hid (X3.out.trans x4);obtain⟨b0,b1,b2,b3,b4,b5,b6,b7,b8,b9,b10,b11,b12,b13,b14,b15,bl⟩:=PB4.out;clear x4)))
      go_ret;exact⟨rfl,X4.out⟩
    ·rw[if_pos hr] at hV;have CR:=hid (fun W (e:Ext w W)=>CR.out W e true);rw[<- hV] at CR hr;have g:(V != 0)=true:=by simpa using hr
     clear hV hr;go_enter Tryz.func82,Tryz.ntmps82;go_wp2;go_quiet (fail)
     go_wp2_with (first
      | (go_at_call 119;((with_reducible refine (CL.out _ (X0.out.drewN _)).mono ?_);rintro e w1 ⟨rfl,x1⟩;have PB1:=hid (PB0.out.ext (((Ext.refl _).drewN _).trans x1));have X1:=hid ((X0.out.drewN _).trans x1);obtain⟨b0,b1,b2,b3,b4,b5,b6,b7,b8,b9,b10,b11,b12,b13,b14,b15,bl⟩:=PB1.out;clear x1))
      | (go_at_call 119;((with_reducible refine (CR.out _ X1.out).mono ?_);rintro e w2 ⟨rfl,x2⟩;try clear b0 b1 b2 b3 b4 b5 b6 b7 b8 b9 b10 b11 b12 b13 b14 b15 bl;have PB2:=hid (PB1.out.ext x2);have X2:=hid (X1.out.trans x2);obtain⟨b0,b1,b2,b3,b4,b5,b6,b7,b8,b9,b10,b11,b12,b13,b14,b15,bl⟩:=PB2.out;clear x2)))
     go_ret;exact⟨rfl,X2.out⟩
   ·rw[if_pos hl] at hV;have CL:=hid (fun W (e:Ext w W)=>CL.out W e false);rw[<- hV] at CL hl;have g:(V != 0)=true:=by simpa using hl
    clear hV hl;go_enter Tryz.func82,Tryz.ntmps82;go_wp2;go_quiet (fail)
    go_wp2_with (first
     | (go_at_call 119;((with_reducible refine (CL.out _ (X0.out.drewN _)).mono ?_);rintro e w1 ⟨rfl,x1⟩;have PB1:=hid (PB0.out.ext (((Ext.refl _).drewN _).trans x1));have X1:=hid ((X0.out.drewN _).trans x1);obtain⟨b0,b1,b2,b3,b4,b5,b6,b7,b8,b9,b10,b11,b12,b13,b14,b15,bl⟩:=PB1.out;clear x1)))
    go_ret;exact⟨rfl,X1.out⟩
  ·rw[show ((3:Int) != 2)=true from rfl,show ((3:Int) != 1)=true from rfl] at *;by_cases hl:sideW L true=0
   ·rw[if_neg (by simp[hl])] at hV;have CL:=hid (fun W (e:Ext w W)=>CL.out W e true);rw[hl] at CL;have HBL:=hid (HBL.out hl);clear hl;by_cases hr:sideW R true=0
    ·rw[if_neg (by simp[hr])] at hV;have CR:=hid (fun W (e:Ext w W)=>CR.out W e true);rw[hr] at CR;have HBR:=hid (HBR.out hr);clear hr;unfold fitB at hV;simp only[HQL.out,HQR.out] at hV;rw[show ((3:Int) != 2)=true from rfl,show ((3:Int) != 1)=true from rfl] at hV;simp only[Bool.true_and,Bool.false_and,Bool.not_true,Bool.not_false,Bool.or_false,Bool.false_or] at hV;cases hc0:toldB R
     ·rw[hc0] at hV TR;simp at hV;subst hV;clear hc0;go_enter Tryz.func82,Tryz.ntmps82;go_wp2;go_quiet (fail)
      go_wp2_with (first
       | (go_at_call 119;((with_reducible refine (CL.out _ (X0.out.drewN _)).mono ?_);rintro e w1 ⟨rfl,x1⟩;have PB1:=hid (PB0.out.ext (((Ext.refl _).drewN _).trans x1));have X1:=hid ((X0.out.drewN _).trans x1);obtain⟨b0,b1,b2,b3,b4,b5,b6,b7,b8,b9,b10,b11,b12,b13,b14,b15,bl⟩:=PB1.out;clear x1))
       | (go_at_call 119;((with_reducible refine (CR.out _ X1.out).mono ?_);rintro e w2 ⟨rfl,x2⟩;try clear b0 b1 b2 b3 b4 b5 b6 b7 b8 b9 b10 b11 b12 b13 b14 b15 bl;have PB2:=hid (PB1.out.ext x2);have X2:=hid (X1.out.trans x2);obtain⟨b0,b1,b2,b3,b4,b5,b6,b7,b8,b9,b10,b11,b12,b13,b14,b15,bl⟩:=PB2.out;clear x2))
       | (go_at_call 120;((with_reducible refine (TR.out _ X2.out).mono ?_);rintro e w3 ⟨rfl,x3⟩;try clear b0 b1 b2 b3 b4 b5 b6 b7 b8 b9 b10 b11 b12 b13 b14 b15 bl;have PB3:=hid (PB2.out.ext x3);have X3:=hid (X2.out.trans x3);obtain⟨b0,b1,b2,b3,b4,b5,b6,b7,b8,b9,b10,b11,b12,b13,b14,b15,bl⟩:=PB3.out;clear x3)))
      go_ret;exact⟨rfl,X3.out⟩
     rw[hc0] at hV TR;simp only[Bool.not_true,Bool.false_or] at hV;clear hc0;cases hc1:toldB L
     ·rw[hc1] at hV TL;simp at hV;subst hV;clear hc1;go_enter Tryz.func82,Tryz.ntmps82;go_wp2;go_quiet (fail)
      go_wp2_with (first
       | (go_at_call 119;((with_reducible refine (CL.out _ (X0.out.drewN _)).mono ?_);rintro e w1 ⟨rfl,x1⟩;have PB1:=hid (PB0.out.ext (((Ext.refl _).drewN _).trans x1));have X1:=hid ((X0.out.drewN _).trans x1);obtain⟨b0,b1,b2,b3,b4,b5,b6,b7,b8,b9,b10,b11,b12,b13,b14,b15,bl⟩:=PB1.out;clear x1))
       | (go_at_call 119;((with_reducible refine (CR.out _ X1.out).mono ?_);rintro e w2 ⟨rfl,x2⟩;try clear b0 b1 b2 b3 b4 b5 b6 b7 b8 b9 b10 b11 b12 b13 b14 b15 bl;have PB2:=hid (PB1.out.ext x2);have X2:=hid (X1.out.trans x2);obtain⟨b0,b1,b2,b3,b4,b5,b6,b7,b8,b9,b10,b11,b12,b13,b14,b15,bl⟩:=PB2.out;clear x2))
       | (go_at_call 120;((with_reducible refine (TR.out _ X2.out).mono ?_);rintro e w3 ⟨rfl,x3⟩;try clear b0 b1 b2 b3 b4 b5 b6 b7 b8 b9 b10 b11 b12 b13 b14 b15 bl;have PB3:=hid (PB2.out.ext x3);have X3:=hid (X2.out.trans x3);obtain⟨b0,b1,b2,b3,b4,b5,b6,b7,b8,b9,b10,b11,b12,b13,b14,b15,bl⟩:=PB3.out;clear x3))
       | (go_at_call 120;((with_reducible refine (TL.out _ X3.out).mono ?_);rintro e w4 ⟨rfl,x4⟩;try clear b0 b1 b2 b3 b4 b5 b6 b7 b8 b9 b10 b11 b12 b13 b14 b15 bl;have PB4:=hid (PB3.out.ext x4);have X4:=hid (X3.out.trans x4);obtain⟨b0,b1,b2,b3,b4,b5,b6,b7,b8,b9,b10,b11,b12,b13,b14,b15,bl⟩:=PB4.out;clear x4)))
      go_ret;exact⟨rfl,X4.out⟩
     rw[hc1] at hV TL;simp at hV;clear hc1;subst hV;go_enter Tryz.func82,Tryz.ntmps82;go_wp2;go_quiet (fail)
     go_wp2_with (first
      | (go_at_call 119;((with_reducible refine (CL.out _ (X0.out.drewN _)).mono ?_);rintro e w1 ⟨rfl,x1⟩;have PB1:=hid (PB0.out.ext (((Ext.refl _).drewN _).trans x1));have X1:=hid ((X0.out.drewN _).trans x1);obtain⟨b0,b1,b2,b3,b4,b5,b6,b7,b8,b9,b10,b11,b12,b13,b14,b15,bl⟩:=PB1.out;clear x1))
      | (go_at_call 119;((with_reducible refine (CR.out _ X1.out).mono ?_);rintro e w2 ⟨rfl,x2⟩;try clear b0 b1 b2 b3 b4 b5 b6 b7 b8 b9 b10 b11 b12 b13 b14 b15 bl;have PB2:=hid (PB1.out.ext x2);have X2:=hid (X1.out.trans x2);obtain⟨b0,b1,b2,b3,b4,b5,b6,b7,b8,b9,b10,b11,b12,b13,b14,b15,bl⟩:=PB2.out;clear x2))
      | (go_at_call 120;((with_reducible refine (TR.out _ X2.out).mono ?_);rintro e w3 ⟨rfl,x3⟩;try clear b0 b1 b2 b3 b4 b5 b6 b7 b8 b9 b10 b11 b12 b13 b14 b15 bl;have PB3:=hid (PB2.out.ext x3);have X3:=hid (X2.out.trans x3);obtain⟨b0,b1,b2,b3,b4,b5,b6,b7,b8,b9,b10,b11,b12,b13,b14,b15,bl⟩:=PB3.out;clear x3))
      | (go_at_call 120;((with_reducible refine (TL.out _ X3.out).mono ?_);rintro e w4 ⟨rfl,x4⟩;try clear b0 b1 b2 b3 b4 b5 b6 b7 b8 b9 b10 b11 b12 b13 b14 b15 bl;have PB4:=hid (PB3.out.ext x4);have X4:=hid (X3.out.trans x4);obtain⟨b0,b1,b2,b3,b4,b5,b6,b7,b8,b9,b10,b11,b12,b13,b14,b15,bl⟩:=PB4.out;clear x4)))
     go_ret;exact⟨rfl,X4.out⟩
    ·rw[if_pos hr] at hV;have CR:=hid (fun W (e:Ext w W)=>CR.out W e true);rw[<- hV] at CR hr;have g:(V != 0)=true:=by simpa using hr
     clear hV hr;go_enter Tryz.func82,Tryz.ntmps82;go_wp2;go_quiet (fail)
     go_wp2_with (first
      | (go_at_call 119;((with_reducible refine (CL.out _ (X0.out.drewN _)).mono ?_);rintro e w1 ⟨rfl,x1⟩;have PB1:=hid (PB0.out.ext (((Ext.refl _).drewN _).trans x1));have X1:=hid ((X0.out.drewN _).trans x1);obtain⟨b0,b1,b2,b3,b4,b5,b6,b7,b8,b9,b10,b11,b12,b13,b14,b15,bl⟩:=PB1.out;clear x1))
      | (go_at_call 119;((with_reducible refine (CR.out _ X1.out).mono ?_);rintro e w2 ⟨rfl,x2⟩;try clear b0 b1 b2 b3 b4 b5 b6 b7 b8 b9 b10 b11 b12 b13 b14 b15 bl;have PB2:=hid (PB1.out.ext x2);have X2:=hid (X1.out.trans x2);obtain⟨b0,b1,b2,b3,b4,b5,b6,b7,b8,b9,b10,b11,b12,b13,b14,b15,bl⟩:=PB2.out;clear x2)))
     go_ret;exact⟨rfl,X2.out⟩
   ·rw[if_pos hl] at hV;have CL:=hid (fun W (e:Ext w W)=>CL.out W e true);rw[<- hV] at CL hl;have g:(V != 0)=true:=by simpa using hl
    clear hV hl;go_enter Tryz.func82,Tryz.ntmps82;go_wp2;go_quiet (fail)
    go_wp2_with (first
     | (go_at_call 119;((with_reducible refine (CL.out _ (X0.out.drewN _)).mono ?_);rintro e w1 ⟨rfl,x1⟩;have PB1:=hid (PB0.out.ext (((Ext.refl _).drewN _).trans x1));have X1:=hid ((X0.out.drewN _).trans x1);obtain⟨b0,b1,b2,b3,b4,b5,b6,b7,b8,b9,b10,b11,b12,b13,b14,b15,bl⟩:=PB1.out;clear x1)))
    go_ret;exact⟨rfl,X1.out⟩
 ·rw[if_neg k2] at hV;subst hV;have m2:(k==2)=false:=by simpa using k2
  go_enter Tryz.func82,Tryz.ntmps82;go_wp2;go_ret;exact⟨rfl,X0.out⟩
end Go.Proofs.YthomjcjnalfipaaGreatDoor
