/- A part of the proof of rowTopAny.proved. -/
import Derived.Test.YthomjcjnalfipaaGreatDoorYB44
import Derived.Test.YthomjcjnalfipaaGreatDoorYA01
set_option linter.all false
set_option maxRecDepth 100000
set_option maxHeartbeats 4000000
open Go.Lib (hid)
namespace Go.Proofs.YthomjcjnalfipaaGreatDoor
open Go.RowKit
theorem TopAny_any (s t:ByteArray) (w:World) (hs:s.size<=1048576) (ht:t.size<=1048576):Calls Tryz.prog 3 #[.string s,.string t] w fun e w'=>e=.returned (.bool true)/\Ext w w':=by
 have HAl:=hid (alive_any w);have HSc:=hid (fun W=>script_any s W hs);have HD:=hid (fun W=>Decode_any t W ht);have hdl:=decodeF_len t
 cases hsc:scriptF s with
 | none=>
  rw[hsc] at HSc;clear hsc;go_enter Tryz.func3,Tryz.ntmps3
  go_wp2_with (first
   | (go_at_call 8;refine HAl.out.mono ?_;rintro e w1 ⟨rfl,x1⟩)
   | (go_at_call 9;refine (HSc.out _).mono ?_;rintro e w2 ⟨x2,f,A1,n1,c1,A2,n2,c2,rfl⟩))
  go_ret;exact⟨rfl,(x1.trans x2).alloc _⟩
 | some S=>
  rw[hsc] at HSc;clear hsc;obtain⟨sf,so,sp⟩:=S;cases sf
  ·go_enter Tryz.func3,Tryz.ntmps3
   go_upto_region 8 with (first
    | (go_at_call 8;refine HAl.out.mono ?_;rintro e w1 ⟨rfl,x1⟩)
    | (go_at_call 9;refine (HSc.out _).mono ?_;rintro e w2 ⟨x2,v,rfl,A1,n1,c1,A2,n2,c2,hv,r1,r2⟩;dsimp only at hv r1 r2;subst hv;have R1:=hid r1;have R2:=hid r2;have X2:=hid (x1.trans x2);clear r1 r2))
   have f3:=(((Ext.refl w2).alloc (.cells #[.bool false,.slice A1 n1 c1,.slice A2 n2 c2] 26)).alloc (.cells #[.bool true,.slice (some ⟨w2.heap.size+1+1,0,none⟩) 1 1,.slice A2 n2 c2] 26)).alloc (.cells #[.int .i32 0,.int .i32 1114111] 30);have SB:=(ScV.new w2 false A1 n1 c1 A2 n2 c2 26).ext (((Ext.refl _).alloc (.cells #[.bool true,.slice (some ⟨w2.heap.size+1+1,0,none⟩) 1 1,.slice A2 n2 c2] 26)).alloc (.cells #[.int .i32 0,.int .i32 1114111] 30));have SU:=(ScV.new (w2.alloc (.cells #[.bool false,.slice A1 n1 c1,.slice A2 n2 c2] 26)) true (some ⟨w2.heap.size+1+1,0,none⟩) 1 1 A2 n2 c2 26).ext ((Ext.refl _).alloc (.cells #[.int .i32 0,.int .i32 1114111] 30));have q0:=cell_new ((w2.alloc (.cells #[.bool false,.slice A1 n1 c1,.slice A2 n2 c2] 26)).alloc (.cells #[.bool true,.slice (some ⟨w2.heap.size+1+1,0,none⟩) 1 1,.slice A2 n2 c2] 26)) #[.int .i32 0,.int .i32 1114111] 30 0 (.int .i32 0) rfl;have q1:=cell_new ((w2.alloc (.cells #[.bool false,.slice A1 n1 c1,.slice A2 n2 c2] 26)).alloc (.cells #[.bool true,.slice (some ⟨w2.heap.size+1+1,0,none⟩) 1 1,.slice A2 n2 c2] 26)) #[.int .i32 0,.int .i32 1114111] 30 1 (.int .i32 1114111) rfl;simp only[World.size_alloc] at SU q0 q1;obtain⟨p0,p1,p2,_,_⟩:=SB;obtain⟨r0,r1,r2,_,_⟩:=SU;have R13:=hid ((R1.out.ext (keep_span _) f3).mono (fun _ _ h=>h) (fun _ _=>trivial));have R23:=hid ((R2.out.ext (keep_pas _) f3).mono (fun _ _ h=>mono_pas (fun _ _=>trivial) h) (fun _ _=>trivial));have X3:=hid (X2.out.trans f3);clear f3 R1 R2;generalize ((w2.alloc (.cells #[.bool false,.slice A1 n1 c1,.slice A2 n2 c2] 26)).alloc (.cells #[.bool true,.slice (some ⟨w2.heap.size+1+1,0,none⟩) 1 1,.slice A2 n2 c2] 26)).alloc (.cells #[.int .i32 0,.int .i32 1114111] 30)=w3 at *;have HAL:=hid (allSp_runs q0 q1);obtain⟨T,hT⟩:∃ z,z=goF ⟨false,so,sp⟩ (decodeF t):=⟨_,rfl⟩
   have HGo:=hid (fun (X:Option Addr) (m d:Nat) (W:World) (e:Ext w3 W) (h:Runes W X m d (decodeF t))=>show Calls Tryz.prog 10 #[.agg #[.bool false,.slice A1 n1 c1,.slice A2 n2 c2],.slice X m d] W fun e w'=>(∃ A n c,e=.returned (.tuple #[.slice A n c,.agg #[.int .i64 T.2.1,.int .i64 T.2.2]])/\SlR rRune 1 (fun b=>W.heap.size<=b) w' A n c T.1)/\Ext W w' by rw[hT];exact Go_one false A1 n1 c1 A2 n2 c2 so sp X m d _ W (R13.out.ext (keep_span top) e) (R23.out.ext (keep_pas top) e) h);have HGu:=hid (fun (X:Option Addr) (m d:Nat) (W:World) (e:Ext w3 W) (h:Runes W X m d (decodeF t))=>show Calls Tryz.prog 10 #[.agg #[.bool true,.slice (some ⟨w2.heap.size+1+1,0,none⟩) 1 1,.slice A2 n2 c2],.slice X m d] W fun e w'=>(∃ A n c,e=.returned (.tuple #[.slice A n c,.agg #[.int .i64 T.2.1,.int .i64 T.2.2]])/\SlR rRune 1 (fun b=>W.heap.size<=b) w' A n c T.1)/\Ext W w' by rw[hT,<- any_law' (s:=⟨false,so,sp⟩) (decodeF t) rfl];exact Go_one true _ 1 1 A2 n2 c2 allSp sp X m d _ W (Spans.ext HAL.out e) (R23.out.ext (keep_pas top) e) h);clear hT q0 q1;go_cut [8,9] from 30 to 36 (fun va vf wx=>∃ A n c fb,va=.slice A n c/\vf=.pointer (some ⟨fb,0,none⟩)/\wx.cell? ⟨fb,0,none⟩=some (.int .i64 T.2.1)/\wx.cell? ⟨fb,1,none⟩=some (.int .i64 T.2.2)/\Hid (Runes wx A n c T.1)/\Ext w3 wx)
   case first=>
    have d0:=(Ext.refl w3).drew;have d1:=((Ext.refl w3).alloc (.cells #[.int .i64 0,.int .i64 0] 34)).drew;have v50:(w3.alloc (.cells #[.int .i64 0,.int .i64 0] 34)).cell? ⟨w3.heap.size,0,none⟩=some (.int .i64 0):=by simp
    have v51:(w3.alloc (.cells #[.int .i64 0,.int .i64 0] 34)).cell? ⟨w3.heap.size,1,none⟩=some (.int .i64 0):=by simp
    have v5z:=Wr.new w3 #[.int .i64 0,.int .i64 0] 34;have hbw:w2.heap.size<w3.heap.size:=World.block_lt_of_cell? w3 _ p0
    go_region_held3 (fun w'=>w'.cell? ⟨w2.heap.size,0,none⟩=some (.bool false)/\w'.cell? ⟨w2.heap.size,1,none⟩=some (.slice A1 n1 c1)/\w'.cell? ⟨w2.heap.size,2,none⟩=some (.slice A2 n2 c2))
     (first | exact⟨p0,p1,p2⟩ | exact⟨y0,y1,y2⟩ | exact⟨t0,t1,t2⟩ | (go_keep;done) | exact⟨(World.cell?_of_block (heap_setB hfb)).trans ((World.cell?_of_block (heap_setB hfb)).trans t0),(World.cell?_of_block (heap_setB hfb)).trans ((World.cell?_of_block (heap_setB hfb)).trans t1),(World.cell?_of_block (heap_setB hfb)).trans ((World.cell?_of_block (heap_setB hfb)).trans t2)⟩)
     (first
      | (go_at_call 11;((with_reducible refine (HD.out w3.drew).mono ?_);rintro e w6a ⟨v,rfl,ov,x6⟩;obtain⟨AT,cT,hv,sT⟩:=ov.top;generalize (decodeF t).length=NT at hv sT;subst hv;have X6:=hid (d0.trans x6);have ST:=hid sT;have y0:=X6.out.cell p0;have y1:=X6.out.cell p1;have y2:=X6.out.cell p2;clear ov sT x6))
      | (go_at_call 11;((with_reducible refine (HD.out (w3.alloc (.cells #[.int .i64 0,.int .i64 0] 34)).drew).mono ?_);rintro e w6a ⟨v,rfl,ov,x6⟩;obtain⟨AT,cT,hv,sT⟩:=ov.top;generalize (decodeF t).length=NT at hv sT;subst hv;have X6:=hid (d1.trans x6);have ST:=hid sT;have y0:=X6.out.cell p0;have y1:=X6.out.cell p1;have y2:=X6.out.cell p2;have v60:=x6.cell (show (w3.alloc (.cells #[.int .i64 0,.int .i64 0] 34)).drew.cell? ⟨w3.heap.size,0,none⟩=some (.int .i64 0) from v50);have v61:=x6.cell (show (w3.alloc (.cells #[.int .i64 0,.int .i64 0] 34)).drew.cell? ⟨w3.heap.size,1,none⟩=some (.int .i64 0) from v51);have v6z:=(v5z.ext (Ext.refl _).drew).ext x6;have hfw:w2.heap.size≠w3.heap.size:=(by omega);clear ov sT x6))
      | (go_at_call 10;((with_reducible refine (HGo.out _ _ _ w6a X6.out ST.out).mono ?_);rintro e w7a ⟨⟨A7,n7,c7,rfl,h7⟩,x7⟩;have X7:=hid ((X6.out).trans x7);have S7:=hid h7;(try have b0:=x7.cell v60);(try have b1:=x7.cell v61);(try have bz:=(v6z.ext x7).2);(try have bl:=(v6z.ext x7).1);(try have hfb:=hfw);have t0:=X7.out.cell p0;have t1:=X7.out.cell p1;have t2:=X7.out.cell p2;clear h7))
      | (go_at_call 10;((with_reducible refine (HGo.out _ _ _ (w6a.alloc (.cells #[.int .i64 0,.int .i64 0] 34)) (X6.out.alloc _) (ST.out.ext (keep_rune top) ((Ext.refl w6a).alloc _))).mono ?_);rintro e w7a ⟨⟨A7,n7,c7,rfl,h7⟩,x7⟩;have X7:=hid (((X6.out.alloc _)).trans x7);have S7:=hid h7;have b0:w7a.cell? ⟨w6a.heap.size,0,none⟩=some (.int .i64 0):=x7.cell (by simp);have b1:w7a.cell? ⟨w6a.heap.size,1,none⟩=some (.int .i64 0):=x7.cell (by simp);have bz:=((Wr.new w6a #[.int .i64 0,.int .i64 0] 34).ext x7).2;have bl:=((Wr.new w6a #[.int .i64 0,.int .i64 0] 34).ext x7).1;have hfb:w2.heap.size≠w6a.heap.size:=(by have:=X6.out.size;omega);have t0:=X7.out.cell p0;have t1:=X7.out.cell p1;have t2:=X7.out.cell p2;clear h7)))
    ·go_wp2_with fail;go_meet;case rel=>exact⟨A7,n7,c7,w7a.heap.size,rfl,rfl,by simp,by simp,hid ((S7.out.ext (keep_rune _) ((Ext.refl w7a).alloc _)).mono (fun _ _ h=>h) (fun _ _=>trivial)),X7.out.alloc _⟩
    ·go_wp2_with fail;go_meet
     case rel=>
      refine⟨A7,n7,c7,w6a.heap.size,rfl,rfl,set_other (set_same b0) (by omega),set_same (set_other b1 (by omega)),hid ?_,ext_set (ext_set X7.out (X6.out.size) _ _) (X6.out.size) _ _⟩;refine (S7.out.keep (keep_rune _) (fun b hb hl=>?_)).mono (fun _ _ h=>h) (fun _ _=>trivial);have q1:b≠w6a.heap.size:=by simp only[World.size_alloc] at hb;omega
      simp only[heap_setB q1]
    ·go_wp2_with fail;go_meet
     case rel=>
      refine⟨A7,n7,c7,w3.heap.size,rfl,rfl,set_other (set_same b0) (by omega),set_same (set_other b1 (by omega)),hid ?_,ext_set (ext_set X7.out (Nat.le_refl _) _ _) (Nat.le_refl _) _ _⟩;refine (S7.out.keep (keep_rune _) (fun b hb hl=>?_)).mono (fun _ _ h=>h) (fun _ _=>trivial);have q1:b≠w3.heap.size:=by have:=v6z.1;omega
      simp only[heap_setB q1]
   case rest=>
    obtain⟨A8,n8,c8,fb,rfl,rfl,z0,z1,HS8,X8⟩:=hcut;have r08:=X8.cell r0;have r18:=X8.cell r1;have r28:=X8.cell r2;have X8h:=hid X8;have HGv:=hid (fun (X:Option Addr) (m d:Nat) (W:World) (e:Ext wc W) (h:Runes W X m d (decodeF t))=>HGu.out X m d W (X8.trans e) h);clear X8 p0 p1 p2 r0 r1 r2 HGo HGu;generalize wc=w4 at *;go_upto_region 9 with fail;go_cut [10,11] from 37 to 43 (fun va vf wx=>∃ A n c fb,va=.slice A n c/\vf=.pointer (some ⟨fb,0,none⟩)/\wx.cell? ⟨fb,0,none⟩=some (.int .i64 T.2.1)/\wx.cell? ⟨fb,1,none⟩=some (.int .i64 T.2.2)/\Hid (Runes wx A n c T.1)/\Ext w4 wx)
    case first=>
     have d0:=(Ext.refl w4).drew;have d1:=((Ext.refl w4).alloc (.cells #[.int .i64 0,.int .i64 0] 34)).drew;have v50:(w4.alloc (.cells #[.int .i64 0,.int .i64 0] 34)).cell? ⟨w4.heap.size,0,none⟩=some (.int .i64 0):=by simp
     have v51:(w4.alloc (.cells #[.int .i64 0,.int .i64 0] 34)).cell? ⟨w4.heap.size,1,none⟩=some (.int .i64 0):=by simp
     have v5z:=Wr.new w4 #[.int .i64 0,.int .i64 0] 34;have hbw:(w2.heap.size+1)<w4.heap.size:=World.block_lt_of_cell? w4 _ r08
     go_region_held3 (fun w'=>w'.cell? ⟨(w2.heap.size+1),0,none⟩=some (.bool true)/\w'.cell? ⟨(w2.heap.size+1),1,none⟩=some (.slice (some ⟨w2.heap.size+1+1,0,none⟩) 1 1)/\w'.cell? ⟨(w2.heap.size+1),2,none⟩=some (.slice A2 n2 c2))
      (first | exact⟨r08,r18,r28⟩ | exact⟨y0,y1,y2⟩ | exact⟨t0,t1,t2⟩ | (go_keep;done) | exact⟨(World.cell?_of_block (heap_setB hfb)).trans ((World.cell?_of_block (heap_setB hfb)).trans t0),(World.cell?_of_block (heap_setB hfb)).trans ((World.cell?_of_block (heap_setB hfb)).trans t1),(World.cell?_of_block (heap_setB hfb)).trans ((World.cell?_of_block (heap_setB hfb)).trans t2)⟩)
      (first
       | (go_at_call 11;((with_reducible refine (HD.out w4.drew).mono ?_);rintro e w6b ⟨v,rfl,ov,x6⟩;obtain⟨AT,cT,hv,sT⟩:=ov.top;generalize (decodeF t).length=NT at hv sT;subst hv;have X6:=hid (d0.trans x6);have ST:=hid sT;have y0:=X6.out.cell r08;have y1:=X6.out.cell r18;have y2:=X6.out.cell r28;clear ov sT x6))
       | (go_at_call 11;((with_reducible refine (HD.out (w4.alloc (.cells #[.int .i64 0,.int .i64 0] 34)).drew).mono ?_);rintro e w6b ⟨v,rfl,ov,x6⟩;obtain⟨AT,cT,hv,sT⟩:=ov.top;generalize (decodeF t).length=NT at hv sT;subst hv;have X6:=hid (d1.trans x6);have ST:=hid sT;have y0:=X6.out.cell r08;have y1:=X6.out.cell r18;have y2:=X6.out.cell r28;have v60:=x6.cell (show (w4.alloc (.cells #[.int .i64 0,.int .i64 0] 34)).drew.cell? ⟨w4.heap.size,0,none⟩=some (.int .i64 0) from v50);have v61:=x6.cell (show (w4.alloc (.cells #[.int .i64 0,.int .i64 0] 34)).drew.cell? ⟨w4.heap.size,1,none⟩=some (.int .i64 0) from v51);have v6z:=(v5z.ext (Ext.refl _).drew).ext x6;have hfw:(w2.heap.size+1)≠w4.heap.size:=(by omega);clear ov sT x6))
       | (go_at_call 10;((with_reducible refine (HGv.out _ _ _ w6b X6.out ST.out).mono ?_);rintro e w7b ⟨⟨A7,n7,c7,rfl,h7⟩,x7⟩;have X7:=hid ((X6.out).trans x7);have S7:=hid h7;(try have b0:=x7.cell v60);(try have b1:=x7.cell v61);(try have bz:=(v6z.ext x7).2);(try have bl:=(v6z.ext x7).1);(try have hfb:=hfw);have t0:=X7.out.cell r08;have t1:=X7.out.cell r18;have t2:=X7.out.cell r28;clear h7))
       | (go_at_call 10;((with_reducible refine (HGv.out _ _ _ (w6b.alloc (.cells #[.int .i64 0,.int .i64 0] 34)) (X6.out.alloc _) (ST.out.ext (keep_rune top) ((Ext.refl w6b).alloc _))).mono ?_);rintro e w7b ⟨⟨A7,n7,c7,rfl,h7⟩,x7⟩;have X7:=hid (((X6.out.alloc _)).trans x7);have S7:=hid h7;have b0:w7b.cell? ⟨w6b.heap.size,0,none⟩=some (.int .i64 0):=x7.cell (by simp);have b1:w7b.cell? ⟨w6b.heap.size,1,none⟩=some (.int .i64 0):=x7.cell (by simp);have bz:=((Wr.new w6b #[.int .i64 0,.int .i64 0] 34).ext x7).2;have bl:=((Wr.new w6b #[.int .i64 0,.int .i64 0] 34).ext x7).1;have hfb:(w2.heap.size+1)≠w6b.heap.size:=(by have:=X6.out.size;omega);have t0:=X7.out.cell r08;have t1:=X7.out.cell r18;have t2:=X7.out.cell r28;clear h7)))
     ·go_wp2_with fail;go_meet;case rel=>exact⟨A7,n7,c7,w7b.heap.size,rfl,rfl,by simp,by simp,hid ((S7.out.ext (keep_rune _) ((Ext.refl w7b).alloc _)).mono (fun _ _ h=>h) (fun _ _=>trivial)),X7.out.alloc _⟩
     ·go_wp2_with fail;go_meet
      case rel=>
       refine⟨A7,n7,c7,w6b.heap.size,rfl,rfl,set_other (set_same b0) (by omega),set_same (set_other b1 (by omega)),hid ?_,ext_set (ext_set X7.out (X6.out.size) _ _) (X6.out.size) _ _⟩;refine (S7.out.keep (keep_rune _) (fun b hb hl=>?_)).mono (fun _ _ h=>h) (fun _ _=>trivial);have q1:b≠w6b.heap.size:=by simp only[World.size_alloc] at hb;omega
       simp only[heap_setB q1]
     ·go_wp2_with fail;go_meet
      case rel=>
       refine⟨A7,n7,c7,w4.heap.size,rfl,rfl,set_other (set_same b0) (by omega),set_same (set_other b1 (by omega)),hid ?_,ext_set (ext_set X7.out (Nat.le_refl _) _ _) (Nat.le_refl _) _ _⟩;refine (S7.out.keep (keep_rune _) (fun b hb hl=>?_)).mono (fun _ _ h=>h) (fun _ _=>trivial);have q1:b≠w4.heap.size:=by have:=v6z.1;omega
       simp only[heap_setB q1]
    case rest=>
     obtain⟨A9,n9,c9,fb2,rfl,rfl,z2,z3,HS9,X9⟩:=hcut;have z0':=X9.cell z0;have z1':=X9.cell z1;have HSm:=hid (Same_any A8 A9 n8 c8 n9 c9 T.1 T.1 _ (Runes.ext HS8.out X9) HS9.out);clear z0 z1;go_wp2_with (go_at_call 12;refine HSm.out.mono ?_;rintro e w8 ⟨rfl,x8⟩);go_ret;exact⟨by simp,((X3.out.trans X8h.out).trans X9).trans x8⟩
  ·go_enter Tryz.func3,Tryz.ntmps3
   go_wp2_with (first
    | (go_at_call 8;refine HAl.out.mono ?_;rintro e w1 ⟨rfl,x1⟩)
    | (go_at_call 9;refine (HSc.out _).mono ?_;rintro e w2 ⟨x2,v,rfl,A1,n1,c1,A2,n2,c2,hv,r1,r2⟩;dsimp only at hv r1 r2;subst hv;clear r1 r2))
   go_ret;exact⟨rfl,(x1.trans x2).alloc _⟩
end Go.Proofs.YthomjcjnalfipaaGreatDoor
