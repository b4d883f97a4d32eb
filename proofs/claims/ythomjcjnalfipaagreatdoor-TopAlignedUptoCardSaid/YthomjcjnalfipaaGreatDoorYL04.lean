/- The law TopAligned, second form: of texts of 1048576 bytes at most it answers true; arguments stay. -/
import Derived.Test.YthomjcjnalfipaaGreatDoorYB44
import Derived.Test.YthomjcjnalfipaaGreatDoorYL03
set_option linter.all false
set_option maxRecDepth 100000
set_option maxHeartbeats 4000000
open Go.Lib (hid)
namespace Go.Proofs.YthomjcjnalfipaaGreatDoor
open Go.RowKit
def SinglePost (w:World) (e:Ending) (w':World):Prop:=
 Ext w w'/\∃ (A:Option Addr) (n c:Nat) (B:Option Addr) (m d:Nat) (b:Bool),e=.returned (.tuple #[.slice A n c,.slice B m d,.bool b])/\(b=true->∃ l:List Rule,Rules w' A n c l)
theorem SinglePost.no {w w':World} {e:Ending} (x:Ext w w') (he:e=.returned (.tuple #[.slice none 0 0,.slice none 0 0,.bool false])):SinglePost w e w':=⟨x,none,0,0,none,0,0,false,he,fun h=>by cases h⟩
theorem single_any (s:ByteArray) (w:World) (hs:s.size<=1048576):Calls Tryz.prog 19 #[.string s] w (SinglePost w):=by
 have HR:=hid (Read_any s w hs);obtain⟨RR,hRR⟩:∃ z,z=readR (decodeF s):=⟨_,rfl⟩
 have HRP:=hid (fun (w:World) e w' (h:RdPost w (readF (decodeF s)) e w')=>show ∃ A c,e=.returned (.tuple #[.slice A RR.1.length c,.agg #[.int .i64 RR.2.1,.int .i64 RR.2.2]])/\Pts (fun b=>w.heap.size<=b) w' A RR.1.length c RR.1/\Ext w w' by rw[hRR];exact h);clear hRR;obtain⟨l,er,at_⟩:=RR;dsimp only at HRP;generalize hll:l.length=ll at HRP;have HLL:=hid hll;clear hll;by_cases her:er=0
 ·subst her;obtain⟨BB,hBB⟩:∃ z,z=readyF l:=⟨_,rfl⟩
  have HF:=hid (fun (A:Option Addr) (c:Nat) (W:World) (h:Pts top W A ll c l)=>show Calls Tryz.prog 23 #[.slice A ll c] W fun e w'=>(∃ v,e=.returned (.tuple #[v,.agg #[.int .i64 BB.err,.int .i64 BB.at_]])/\rScript W.heap.size w' v BB.forth)/\Ext W w' by rw[hBB];exact Forth_any A ll c l W h);have HB:=hid (fun (A:Option Addr) (c:Nat) (W:World) (h:Pts top W A ll c l)=>show Calls Tryz.prog 36 #[.slice A ll c] W fun e w'=>(∃ v,e=.returned (.tuple #[v,.agg #[.int .i64 BB.err,.int .i64 BB.at_]])/\rScript W.heap.size w' v BB.back)/\Ext W w' by rw[hBB];exact Back_any A ll c l W h);clear hBB;obtain⟨⟨sf,so,sp⟩,⟨bf,bo,bp⟩,er2,at2⟩:=BB;dsimp only at HF HB;go_enter Tryz.func19,Tryz.ntmps19
  go_upto_region 5 with (first
   | (go_at_call 22;refine HR.out.mono ?_;intro e w2 hpost;obtain⟨A,c,rfl,hP,x2⟩:=HRP.out _ _ _ hpost;have f2:=x2.alloc (.cells #[.int .i64 0,.int .i64 at_] 34);have FA:=hid (FaV.new w2 0 at_ 34);have P2:=hid ((hP.mono (fun _ _ h=>fam_pt.mono (fun _ _=>trivial) h) (fun _ _=>trivial)).ext (fam_pt.keep top) ((Ext.refl w2).alloc (.cells #[.int .i64 0,.int .i64 at_] 34)));have hs2:=x2.size;have P0:=hid (hP.mono (fun _ _ h=>fam_pt.mono (fun _ _=>trivial) h) (fun _ _=>trivial):Pts top w2 A ll c l);clear hP hpost;obtain⟨g0,g1,gz,gl⟩:=FA.out)
   | (go_at_call 23;refine (HF.out _ _ _ P2.out).mono ?_;rintro e w3 ⟨⟨v,rfl,A1,n1,c1,A2,n2,c2,hv,r1,r2⟩,x3⟩;dsimp only at hv r1 r2;subst hv;have X3:=hid (f2.trans x3);have FA3:=hid (FA.out.ext x3);clear g0 g1 gz gl;obtain⟨g0,g1,gz,gl⟩:=FA3.out;have R2:=hid r2;have X23:=hid x3;have xs:=x3.size;clear r1 r2 x3))
  have X4:=hid (ext_set (ext_set X3.out hs2 0 (.int .i64 er2)) hs2 1 (.int .i64 at2));have FB:=hid ((FA3.out.set0 er2).set1 at2);have hn2:w2.heap.size<(w2.alloc (.cells #[.int .i64 0,.int .i64 at_] 34)).heap.size:=by simp
  have ag4:Agree (fun b=>(w2.alloc (.cells #[.int .i64 0,.int .i64 at_] 34)).heap.size<=b) w3 ((w3.setCell ⟨w2.heap.size,0,none⟩ (.int .i64 er2)).setCell ⟨w2.heap.size,1,none⟩ (.int .i64 at2)):=fun b hb hl=>by
   have q1:b≠w2.heap.size:=by omega
   simp only[heap_setB q1]
  have R24:=hid (R2.out.keep (keep_pas _) ag4);have hz4:((w3.setCell ⟨w2.heap.size,0,none⟩ (.int .i64 er2)).setCell ⟨w2.heap.size,1,none⟩ (.int .i64 at2)).heap.size=w3.heap.size:=by simp only[size_set]
  have X24:=hid (ext_set (ext_set (((Ext.refl w2).alloc (.cells #[.int .i64 0,.int .i64 at_] 34)).trans X23.out) (Nat.le_refl _) 0 (.int .i64 er2)) (Nat.le_refl _) 1 (.int .i64 at2));clear ag4 g0 g1 gz gl FA3 R2 X3 FA P2 X23 f2 hs2 xs;generalize ((w3.setCell ⟨w2.heap.size,0,none⟩ (.int .i64 er2)).setCell ⟨w2.heap.size,1,none⟩ (.int .i64 at2))=w4 at *;have f5:=(Ext.refl w4).alloc (.cells #[.bool sf,.slice A1 n1 c1,.slice A2 n2 c2] 26);have SB:=hid (ScV.new w4 sf A1 n1 c1 A2 n2 c2 26);have FB5:=hid (FB.out.ext f5);have X5:=hid (X4.out.trans f5);have R25:=hid ((R24.out.ext (keep_pas _) f5).mono (fun _ _ h=>mono_pas (fun _ _=>trivial) h) (fun _ _=>trivial):Pss top (w4.alloc (.cells #[.bool sf,.slice A1 n1 c1,.slice A2 n2 c2] 26)) A2 n2 c2 sp);have P5:=hid (P0.out.ext (fam_pt.keep top) (X24.out.trans f5));clear FB X4 R24 f5 X24 P0;generalize w4.alloc (.cells #[.bool sf,.slice A1 n1 c1,.slice A2 n2 c2] 26)=w5 at *;rw[hz4] at SB;go_upto_region 6 with (go_at_call 36;refine (HB.out _ _ _ P5.out).mono ?_;rintro e w6 ⟨⟨v,rfl,B1,m1,d1,B2,m2,d2,hv,r1,r2⟩,x6⟩;dsimp only at hv r1 r2;subst hv;have X6:=hid x6;have RB:=hid r2;clear r1 r2 x6);have z6:=((Ext.refl w6).alloc (.cells #[.bool bf,.slice B1 m1 d1,.slice B2 m2 d2] 26)).alloc (.cells #[.int .i64 er2,.int .i64 at2] 34);have x59:=X6.out.trans z6;obtain⟨p0,p1,p2,_,_⟩:=SB.out.ext x59;obtain⟨f0,f1,_,_⟩:=FB5.out.ext x59;obtain⟨b0,b1,b2,_,_⟩:=(ScV.new w6 bf B1 m1 d1 B2 m2 d2 26).ext ((Ext.refl _).alloc (.cells #[.int .i64 er2,.int .i64 at2] 34));have FZ:=FaV.new (w6.alloc (.cells #[.bool bf,.slice B1 m1 d1,.slice B2 m2 d2] 26)) er2 at2 34;rw[World.size_alloc] at FZ;obtain⟨e0,e1,_,_⟩:=FZ;have X9:=hid (X5.out.trans x59);have R29:=hid (R25.out.ext (keep_pas _) x59);have RB9:=hid ((RB.out.ext (keep_pas _) z6).mono (fun _ _ h=>mono_pas (fun _ _=>trivial) h) (fun _ _=>trivial):Pss top ((w6.alloc (.cells #[.bool bf,.slice B1 m1 d1,.slice B2 m2 d2] 26)).alloc (.cells #[.int .i64 er2,.int .i64 at2] 34)) B2 m2 d2 bp);clear z6 x59 SB FB5 X5 R25 RB X6 P5 HF HB HR HRP;generalize (w6.alloc (.cells #[.bool bf,.slice B1 m1 d1,.slice B2 m2 d2] 26)).alloc (.cells #[.int .i64 er2,.int .i64 at2] 34)=w9 at *;by_cases h1:er2=0
  case' neg=>
   have g1:(er2 != 0)=true:=by simpa using h1
   clear h1;go_wp2_with fail;refine bodyPost_ret (v:=.tuple #[.slice none 0 0,.slice none 0 0,.bool false]) (by simp[results,Tryz.results19,go_sem]) rfl ?_;exact SinglePost.no X9.out rfl
  subst h1;cases sf
  case' true=>
   go_wp2_with fail;refine bodyPost_ret (v:=.tuple #[.slice none 0 0,.slice none 0 0,.bool false]) (by simp[results,Tryz.results19,go_sem]) rfl ?_;exact SinglePost.no X9.out rfl
  have hcap:=R29.out.cap;have hmax:=R29.out.max;unfold maxLen at hmax;have hcap2:=RB9.out.cap;have hmax2:=RB9.out.max;unfold maxLen at hmax2;by_cases h2:n2=1
  case' neg=>
   have g2:((n2:Int) != 1)=true:=by have:(n2:Int)≠1:=by omega
                                    simpa using this
   clear h2;go_wp2_with fail;refine bodyPost_ret (v:=.tuple #[.slice none 0 0,.slice none 0 0,.bool false]) (by simp[results,Tryz.results19,go_sem]) rfl ?_;exact SinglePost.no X9.out rfl
  subst h2;by_cases h3:m2<=1
  case' neg=>
   have g3:decide ((1:Int)<(m2:Int))=true:=decide_eq_true (by omega);go_wp2_with fail;refine bodyPost_ret (v:=.tuple #[.slice none 0 0,.slice none 0 0,.bool false]) (by simp[results,Tryz.results19,go_sem]) rfl ?_;exact SinglePost.no X9.out rfl
  have g3:decide ((1:Int)<(m2:Int))=false:=decide_eq_false (by omega);obtain⟨pp,hpp⟩:=R29.out.idx (by omega:0<1);obtain⟨pb,off,A',n',c',hA,_,_,hr,c0,c1'⟩:=SlR.pas R29.out hpp;subst hA;have HRl:=hid (show Rules w9 A' n' c' pp.rules from hr.mono (fun _ _ h=>rRuleO_top h) (fun _ _=>trivial));obtain⟨nm,rs⟩:=pp;dsimp only at *;clear hpp hr;simp only[Nat.zero_mul,Nat.add_zero] at c0 c1';by_cases hnm:nm=.empty
  case' neg=>
   have g4:(nm.toList==[])=false:=lit_ne hnm rfl;have g5:(nm.toList != [])=true:=by simp only[bne,g4,Bool.not_false]
   clear hnm;go_wp2_with fail;refine bodyPost_ret (v:=.tuple #[.slice none 0 0,.slice none 0 0,.bool false]) (by simp[results,Tryz.results19,go_sem]) rfl ?_;exact SinglePost.no X9.out rfl
  have g4:(nm.toList==[])=true:=by rw[hnm,Lib.toList_data];rfl
  have g5:(nm.toList != [])=false:=by simp only[bne,g4,Bool.not_true]
  clear hnm;by_cases h6:m2=0
  ·subst h6;go_wp2_with fail;refine bodyPost_ret (v:=.tuple #[.slice A' n' c',.slice none 0 0,.bool true]) (by simp[results,Tryz.results19,go_sem]) rfl ?_;exact⟨X9.out,A',n',c',none,0,0,true,rfl,fun _=>⟨rs,HRl.out⟩⟩
  ·obtain rfl:m2=1:=by omega
   obtain⟨qq,hqq⟩:=RB9.out.idx (by omega:0<1);obtain⟨qb,off2,A3,n3,c3,hA3,_,_,_,j0,j1⟩:=SlR.pas RB9.out hqq;subst hA3;obtain⟨ny,ry⟩:=qq;dsimp only at *;clear hqq;simp only[Nat.zero_mul,Nat.add_zero] at j0 j1;go_wp2_with fail;go_quiet (fail);go_wp2;refine bodyPost_ret (v:=.tuple #[.slice A' n' c',.slice A3 n3 c3,.bool (ny.toList==[])]) (by simp[results,Tryz.results19,go_sem]) rfl ?_;exact⟨(X9.out.drewN _),A',n',c',A3,n3,c3,_,rfl,fun _=>⟨rs,HRl.out.ext ((Ext.refl _).drewN _)⟩⟩
 ·have ger:(er != 0)=true:=by simpa using her
  clear her;go_enter Tryz.func19,Tryz.ntmps19;go_wp2_with (go_at_call 22;refine HR.out.mono ?_;intro e w2 hpost;obtain⟨A,c,rfl,hP,x2⟩:=HRP.out _ _ _ hpost;have X2:=hid (x2.alloc (.cells #[.int .i64 er,.int .i64 at_] 34));clear hP hpost x2);refine bodyPost_ret (v:=.tuple #[.slice none 0 0,.slice none 0 0,.bool false]) (by simp[results,Tryz.results19,go_sem]) rfl ?_;exact SinglePost.no X2.out rfl
theorem TopAligned_any (s t:ByteArray) (w:World) (hs:s.size<=1048576) (ht:t.size<=1048576):Calls Tryz.prog 6 #[.string s,.string t] w fun e w'=>e=.returned (.bool true)/\Ext w w':=by
 have HAl:=hid (alive_any w);have HSi:=hid (fun W=>single_any s W hs);have HD:=hid (fun W=>Decode_any t W ht);have hdl:=decodeF_len t;go_enter Tryz.func6,Tryz.ntmps6
 go_upto_region 4 with (first
  | (go_at_call 8;refine HAl.out.mono ?_;rintro e w1 ⟨rfl,x1⟩)
  | (go_at_call 19;refine (HSi.out _).mono ?_;rintro e w2 ⟨x2,A,n,c,B,m,d,b,rfl,hb⟩;have HB:=hid hb;have X2:=hid (x1.trans x2);clear hb))
 cases b
 case' false=>
  go_wp2_with fail;go_ret;exact⟨rfl,X2.out⟩
 obtain⟨l,hl⟩:=HB.out rfl;have R2:=hid hl;clear hl HB x1 x2;go_upto_region 7 with (go_at_call 11;refine (HD.out _).mono ?_;rintro e w4 ⟨v,rfl,ov,x4⟩;obtain⟨AT,cT,hv,sT⟩:=ov.top;subst hv;have ST:=hid sT;have X4:=hid (X2.out.trans x4);have R4:=hid (R2.out.ext x4);clear ov sT x4);have HL:=hid (Links_any A n c l AT _ cT (decodeF t) w4 R4.out ST.out);have hTc:=ST.out.cap;have hTm:=ST.out.max;unfold maxLen at hTm;have hnc:=R4.out.cap;have hnm:=R4.out.max;unfold maxLen at hnm;have hln:=hid R4.out.len;clear HD R2 X2 HSi HAl;generalize decodeF t=T at *;generalize hmT:T.length=mT at *;have hTl:=hid hmT;clear hmT;go_wp2_with fail;go_at_call 20;refine HL.out.mono ?_;rintro e w5 ⟨x5,he⟩;rcases he with ⟨a,b,ha,rfl⟩ | ⟨hv,hsu,A7,n7,c7,rfl,s7⟩
 ·have ga:(a != 0)=true:=by simpa using ha
  clear ha;go_wp2_with fail;go_ret;exact⟨rfl,(X4.out.trans x5).alloc _⟩
 ·obtain⟨a1,a2,a3,a4,a5⟩:=align_law hsu hv;have HOk:=hid a1;have HFl:=hid a2;have HG:=hid a5;have hV4:=hid a3;have hT4:mT<=4000:=by rw[<- hTl.out];exact a4
  clear a1 a2 a3 a4 a5 hv hsu;generalize linksF l 0 (shotsF l T)=ks at *;generalize vmV l T=V at *;have hBF0:w.heap.size<=w5.heap.size:=Nat.le_trans X4.out.size x5.size;have f5:=(Ext.refl w5).alloc (.cells #[.int .i64 0,.int .i64 0] 34);have FV:=hid (FaV.new w5 0 0 34);have S6:=hid ((s7.ext (keep_lk _) f5).mono (fun _ _ h=>h) (fun _ _=>trivial):SlR rLk 5 top (w5.alloc (.cells #[.int .i64 0,.int .i64 0] 34)) A7 n7 c7 ks);have X46:=hid (x5.trans f5);have hs6:(w5.alloc (.cells #[.int .i64 0,.int .i64 0] 34)).heap.size=w5.heap.size+1:=World.size_alloc _ _;have hklen:=hid S6.out.len;have hkc:=S6.out.cap;have hkm:=S6.out.max;unfold maxLen at hkm;clear f5 s7 x5 HL;go_upto_region 12 with fail;generalize w5.alloc (.cells #[.int .i64 0,.int .i64 0] 34)=w6 at *;generalize w5.heap.size=BF at *;have hBF:BF<w6.heap.size:=by omega
  go_loopw [11,38] (fun v11 v wr=>∃ (k:Nat) (o:List Int) (A8:Option Addr) (c8:Nat),k<=n7/\v=.int .i64 k/\v11=.slice A8 o.length c8/\Hid (((ks.take k).map (piece l T)).flatten=o) /\
   Hid (OwnR rRune 21 1 w6.heap.size wr (.slice A8 o.length c8) o)/\Hid (Ext w6 wr)) (fun _ v _=>n7-(intOf v).toNat)
  case atStart=>exact⟨0,[],none,0,by omega,rfl,rfl,hid rfl,hid (OwnR.nil _ _ _ _ _),hid (Ext.refl _)⟩
  case round=>
   obtain⟨k,o,A8,c8,hk,rfl,rfl,Ho,HO,Y⟩:=hrel;have hsz:=Y.out.size
   have HOL:=hid (show o.length<=4000 by
    have h1:=hV4.out;rw[HFl.out] at h1;have h2:((ks.take k++ks.drop k).map (piece l T)).flatten.length<=4000:=by rw[List.take_append_drop];exact h1
    rw[List.map_append,List.flatten_append,Ho.out,List.length_append] at h2
    omega)
   by_cases hlt:k<n7
   ·obtain⟨x,hxx⟩:=S6.out.idx hlt;obtain⟨b,off,hA,_,s0,s1,s2,s3,s4⟩:=S6.out.lk hxx;subst hA;have s0:=Y.out.cell s0;have s1:=Y.out.cell s1;have s2:=Y.out.cell s2;have s3:=Y.out.cell s3;have s4:=Y.out.cell s4;have hb:=World.block_lt_of_cell? _ _ s0;have hbn:b≠wr.heap.size:=Nat.ne_of_lt hb;obtain⟨o1,o2,o3,o4,o5,o6,o7,o8,o9⟩:=HOk.out x (List.mem_of_getElem? hxx);rw[hln.out] at o1;rw[hTl.out] at o5;have HN:=hid (show ((ks.take (k+1)).map (piece l T)).flatten=o++piece l T x by rw[take_snoc hxx,List.map_append,List.flatten_append,Ho.out];simp);have Z7:=(Ext.refl wr).alloc (.cells #[.int .i64 x.fr,.int .i64 x.til,.int .i64 x.be,.int .i64 x.en,.int .i64 x.ru] 58);have Y7:=hid (Y.out.trans Z7);have HO7:=hid (HO.out.ext (keep_rune bot) Z7);have ST7:=hid (ST.out.ext (keep_rune top) (X46.out.trans Y7.out));have hw7:(wr.alloc (.cells #[.int .i64 x.fr,.int .i64 x.til,.int .i64 x.be,.int .i64 x.en,.int .i64 x.ru] 58)).heap.size=wr.heap.size+1:=World.size_alloc _ _;have g1:decide ((n:Int)<=x.ru)=false:=decide_eq_false (by omega);have g2:decide (x.fr<0)=false:=decide_eq_false (by omega);have g3:decide ((mT:Int)<x.til)=false:=decide_eq_false (by omega);have g4:decide (x.til<x.fr)=false:=decide_eq_false (by omega);by_cases hru:0<=x.ru
    ·obtain⟨i,hi⟩:=Int.eq_ofNat_of_zero_le hru;have g5:decide (0<=x.ru)=true:=decide_eq_true hru;have hil:i<n:=by omega
     obtain⟨r,hrr⟩:=R4.out.idx hil;obtain⟨b2,off2,q1,q2,A1,m1,d1,A3,m3,d3,B4,m4,d4,A5,m5,d5,q,hA2,_,hv,_,_,_,_,_,r5,_⟩:=R4.out.rule hrr;subst hA2;have X4r:=X46.out.trans Y.out;have r5:=X4r.cell r5;have hb2:=World.block_lt_of_cell? _ _ r5;have hb2n:b2≠wr.heap.size:=Nat.ne_of_lt hb2;have SR:=hid (hv.target.ext (X4r.trans Z7))
     have hp:piece l T x=r.target:=by
      unfold piece;rw[if_pos hru,hi];simp only[Int.toNat_natCast,List.getD,hrr,Option.getD_some]
     have hm5:m5<=4000:=by
      have h1:=hV4.out;rw[HFl.out] at h1;have h2:((ks.take (k+1)++ks.drop (k+1)).map (piece l T)).flatten.length<=4000:=by rw[List.take_append_drop];exact h1
      rw[List.map_append,List.flatten_append,HN.out,hp,List.length_append,List.length_append,hv.target.len] at h2;omega
     rw[hp] at HN;obtain⟨o2',ho2⟩:∃ z,o++r.target=z:=⟨_,rfl⟩
     rw[ho2] at HN;have HO2:=hid ho2;clear hp ho2 hv hrr Z7 X4r HO Ho hxx;obtain⟨fr,tl,be,en,ru⟩:=x;dsimp only at *;subst hi;go_wp2_with (at_builtin;refine wpList_appS T_rune (by omega) rfl (.tmp 69) (.tmp 75) rfl rfl HO7.out rfl (SR.out) (fun _ _ h=>h) one_rune (keep_rune bot) (bot_no _) (by have:=HOL.out;omega) (by omega) ?_;intro v9 w9 o9 g9 hat9;rw[HO2.out] at o9;have X9:=hid ((Y7.out).grown g9 (fun g hg=>by have:=(HO7.out.lt g hg).1;omega));obtain⟨A9,c9,rfl,_,_⟩:=o9.form;have O9:=hid o9;clear o9 g9 hat9);go_roundw;case rel=>exact⟨k+1,o2',A9,c9,by omega,by go_num,rfl,HN,O9,X9⟩
     case measure=>simp[intOf];omega
    ·have g5:decide (0<=x.ru)=false:=decide_eq_false hru;obtain⟨fr,hfr⟩:=Int.eq_ofNat_of_zero_le o3;obtain⟨tl,hto⟩:=Int.eq_ofNat_of_zero_le (show 0<=x.til by omega);have hft:fr<=tl:=by omega
     have htm:tl<=mT:=by omega
     have hsl:=fun W=>run_cut_lh T_rune AT mT cT (fr:Int) (tl:Int) fr tl rfl rfl hft (by omega) W;have SM:=hid (ST7.out.mid hft htm)
     have hp:piece l T x=(T.take tl).drop fr:=by
      unfold piece;rw[if_neg hru,hfr,hto,Int.toNat_natCast,Int.toNat_natCast]
     rw[hp] at HN;obtain⟨o2',ho2⟩:∃ z,o++(T.take tl).drop fr=z:=⟨_,rfl⟩
     rw[ho2] at HN;have HO2:=hid ho2;clear hp ho2 Z7 HO Ho hxx;obtain⟨fr',tl',be,en,ru⟩:=x;dsimp only at *;subst hfr hto;go_wp2_with (at_builtin;refine wpList_appS T_rune (by omega) rfl (.tmp 77) (.tmp 83) rfl rfl HO7.out rfl (SM.out) (fun _ _ h=>h) one_rune (keep_rune bot) (bot_no _) (by have:=HOL.out;omega) (by omega) ?_;intro v9 w9 o9 g9 hat9;rw[HO2.out] at o9;have X9:=hid ((Y7.out).grown g9 (fun g hg=>by have:=(HO7.out.lt g hg).1;omega));obtain⟨A9,c9,rfl,_,_⟩:=o9.form;have O9:=hid o9;clear o9 g9 hat9);go_roundw;case rel=>exact⟨k+1,o2',A9,c9,by omega,by go_num,rfl,HN,O9,X9⟩
     case measure=>simp[intOf];omega
   ·have he:o=V:=by rw[<- Ho.out,List.take_of_length_le (by rw[hklen.out];omega),HFl.out]
    subst he;have FVr:=hid (FV.out.ext Y.out);obtain⟨f0,f1,fz,fl⟩:=FVr.out;have R7:=hid (R4.out.ext (X46.out.trans Y.out));have ST7:=hid (ST.out.ext (keep_rune top) (X46.out.trans Y.out));have P1:=hid ((pass_one (p:=⟨.empty,l⟩) 42 (by show 0<=_;omega) (rules_lt R7.out)).mono (fun _ _ h=>mono_pas (fun _ _=>trivial) h) (fun _ _=>trivial):Pss top (wr.alloc (.cells #[.string ⟨#[]⟩,.slice A n c] 42)) (some ⟨wr.heap.size,0,none⟩) 1 1 [⟨.empty,l⟩]);have HGo:=hid (Go_one false none 0 0 (some ⟨wr.heap.size,0,none⟩) 1 1 [] [⟨.empty,l⟩] AT mT cT T (wr.alloc (.cells #[.string ⟨#[]⟩,.slice A n c] 42)) (SlR.nil _ _ _ _ _ _ (by unfold maxLen;omega)) P1.out (ST7.out.ext (keep_rune top) ((Ext.refl wr).alloc _)));rw[HG.out] at HGo;obtain⟨A9,c9,e9,s9⟩:=HO.out.sl;cases e9;have S9:=hid (s9.ext (keep_rune _) ((Ext.refl wr).alloc (.cells #[.string ⟨#[]⟩,.slice A n c] 42)));have XW:=hid ((X4.out.trans X46.out).trans (Y.out.trans ((Ext.refl wr).alloc (.cells #[.string ⟨#[]⟩,.slice A n c] 42))));have XP:=hid (FVr.out.ext ((Ext.refl wr).alloc (.cells #[.string ⟨#[]⟩,.slice A n c] 42)));have hpz:(wr.alloc (.cells #[.string ⟨#[]⟩,.slice A n c] 42)).heap.size=wr.heap.size+1:=World.size_alloc _ _;clear f0 f1 fz fl s9 FVr
    go_wp2_with (first
     | (go_at_call 10;refine HGo.out.mono ?_;rintro e w8 ⟨⟨A8',n8,c8',rfl,s8⟩,x8⟩;obtain⟨f0,f1,fz,fl⟩:=XP.out.ext x8;have X8:=hid x8;have S8:=hid s8;have ag:=hid (show Agree (fun b=>w6.heap.size<=b) w8 ((w8.setCell ⟨BF,0,none⟩ (.int .i64 0)).setCell ⟨BF,1,none⟩ (.int .i64 0)) from fun b hb hl=>(by have q1:b≠BF:=(by omega);simp only[heap_setB q1]));have Sa:=hid (((S8.out.mono (fun _ _ h=>h) (fun b hb=>(by omega)):SlR rRune 1 (fun b=>w6.heap.size<=b) w8 A8' n8 c8' o).keep (keep_rune _) ag.out).mono (fun _ _ h=>h) (fun _ _=>trivial):Runes _ A8' n8 c8' o);have Sb:=hid (((S9.out.ext (keep_rune _) x8).keep (keep_rune _) ag.out).mono (fun _ _ h=>h) (fun _ _=>trivial):Runes _ A8 o.length c8 o);clear s8 x8)
     | (go_at_call 12;refine (Same_any _ _ _ _ _ _ o o _ Sa.out Sb.out).mono ?_;rintro e w10 ⟨rfl,x10⟩))
    go_ret;exact⟨by simp,(ext_set (ext_set (XW.out.trans X8.out) hBF0 _ _) hBF0 _ _).trans x10⟩
end Go.Proofs.YthomjcjnalfipaaGreatDoor
namespace Go.Proofs.YthomjcjnalfipaaGreatDoor.rowTopAligned
open Go.ChangeShapes Go.WideShapes Go.ChangeAt Go.RowKit
open Go.ChangeMaps (open_string shut_string)
theorem reads (os:Os) {H:Type} (enc:TypeId×Value->H):∃ places,DataW.whole enc Tryz.prog ((topWorld os).forCall (fun _ _=>0) ⟨#[],#[.string ⟨#[]⟩,.string ⟨#[]⟩],[]⟩).memory Tryz.f6.params.toList (Rows.OpenSpec.upto Rows.topAlignedSpec).vars false #[Value.string ⟨#[]⟩,Value.string ⟨#[]⟩].toList 8=some ([.lit (.string []),.lit (.string [])],[],places):=
 ⟨[],by kernel_rfl⟩
theorem lifted (os:Os) (started:os.Started) (H:Type) (enc:TypeId×Value->H) (F:Stop.Interp) :
  ReturnsInHanded {} Tryz.checked os 6 .any ((Rows.OpenSpec.upto Rows.topAlignedSpec).preRow enc Tryz.prog Tryz.f6 Rows.topAlignedUptoRow.domain false Rows.topAlignedUptoRow.laid) (((Rows.OpenSpec.upto Rows.topAlignedSpec).at F).post enc Tryz.prog Tryz.f6 false true false false):=by
 obtain⟨places,hx⟩:=reads os enc
 refine returnsInHanded_of_row (C:=Tryz.checked) (s:=(Rows.OpenSpec.upto Rows.topAlignedSpec)) topOwn started (by kernel_rfl) Tryz.func6
  (witness_row_atRef (enc:=enc) (C:=Tryz.checked) false (topWorld os) #[Value.string ⟨#[]⟩,Value.string ⟨#[]⟩] rfl (by kernel_rfl) (by kernel_rfl) (by kernel_rfl)
   (OpenSpec.preRow_of_cond 8 hx (by kernel_rfl) (fun k hk=>by cases hk;kernel_rfl) (by kernel_rfl) (topLaid os _))) ?_
 intro W base args ds gs before hval0 hW _ hcond _ _ _ _;have hk:Rows.uptoSmall H (ds++gs)=true:=hcond _ rfl;have hval:∀ (j:Nat) t v,Tryz.f6.params[j]? =some t->args[j]? =some v->Value.okWide Tryz.prog W .any base t v:=hval0;have hW':=hW;obtain⟨p,q,hA0,hV,rfl,hfz,hnd⟩:=hW;have hA:DataW.TrodAll enc Tryz.prog W 0 (fun _=>true) true Tryz.f6.params.toList args.toList ds p:=hA0;rw[Tryz.params6] at hA hval;obtain⟨v0,vs0,d0,ds0,p0,q0,hargs,rfl,rfl,h0,r0⟩:=trodAll_cons hA;obtain⟨v1,vs1,d1,ds1,p1,q1,rfl,rfl,rfl,h1,r1⟩:=trodAll_cons r0;obtain⟨rfl,rfl,rfl⟩:=trodAll_nil r1;obtain rfl:args=#[v0,v1]:=by cases args;simp_all
 obtain⟨rfl,rfl⟩:=trodVars_none hV;obtain⟨s0,rfl,rfl,rfl,ws0⟩:=open_string Tryz.underlying9 (hval 0 9 v0 rfl rfl) h0;have z0:s0.size<=1048576:=by have:=text_bulk s0.data.toList hk (by simp);rw[bytes_len] at this;exact this
 obtain⟨s1,rfl,rfl,rfl,ws1⟩:=open_string Tryz.underlying9 (hval 1 9 v1 rfl rfl) h1;have z1:s1.size<=1048576:=by have:=text_bulk s1.data.toList hk (by simp);rw[bytes_len] at this;exact this
 clear hA0;simp only[List.append_nil] at hW';refine (TopAligned_any s0 s1 W z0 z1).mono fun e W' ⟨he,hg⟩=>?_;subst he;refine⟨_,rfl,_,_,_,[],_,[],hW',trodAll_mk1 (shut_bool Tryz.underlying4 _),(trodAll_cons_mk (shut_string Tryz.underlying9 ws0) (trodAll_cons_mk (shut_string Tryz.underlying9 ws1) trodAll_mk0)),rfl,hg.frame _,fun h=>by cases h⟩
theorem and2 {a b:Bool} (h:a=true) (k:b=true):(a&&b)=true:=by rw[h,k];rfl
theorem closed:joinedFacts Tryz.pinned.checked.prog 6 Tryz.f6 (Rows.OpenSpec.upto Rows.topAlignedSpec).bare Rows.topAlignedUptoRow=true:=by
 unfold joinedFacts
 repeat (refine and2 ?_ (by kernel_rfl))
 kernel_rfl
theorem over:Rows.topAlignedUptoRow.holds Tryz.pinned (Rows.OpenSpec.upto Rows.topAlignedSpec):=
 OpenClaim.holds_of_cond 6 Tryz.f6 rfl rfl rfl rfl rfl rfl rfl ⟨rfl,rfl,rfl,rfl,rfl⟩ rfl rfl rfl rfl rfl (by kernel_rfl) Tryz.func6 closed
  (of_decide_eq_true (by kernel_rfl)) (by unfold Func.isWrapper;first | (rw[if_pos (by decide +kernel)];kernel_rfl) | (rw[if_neg (by decide +kernel)];exact⟨rfl,rfl⟩))
  (fun os started H enc _ F=>by rw[OpenClaim.pre_eq_preRow];exact lifted os started H enc F)
theorem plain (f:FuncId) (fn:Func) (hf:Tryz.pinned.checked.prog.funcNamed Rows.topAlignedUptoRow.func=some f) (hfn:Tryz.pinned.checked.prog.funcs[f]? =some fn) :
  true=Tryz.pinned.checked.prog.looks []/\∀ (j:Nat) t,fn.params[j]? =some t->Tryz.pinned.checked.prog.wantsStandIn t=false:=by
 obtain rfl:f=6:=Option.some.inj ((show Tryz.pinned.checked.prog.funcNamed Rows.topAlignedUptoRow.func=some 6 by kernel_rfl).symm.trans hf) |>.symm
 obtain rfl:fn=Tryz.f6:=(Option.some.inj (Tryz.func6.symm.trans hfn)).symm;refine⟨by kernel_rfl,fun j t ht=>?_⟩;rw[Tryz.params6] at ht;obtain rfl:t=9:=by simpa using Array.mem_of_getElem? ht
 exact (show Tryz.prog.wantsStandIn 9=false by kernel_rfl)
theorem proved:Rows.TopAlignedUptoCardSaid:=
 Claim7.holds_tied_plain_at .later [] _ _ _ _ over (fun _ h=>by cases h) (by kernel_rfl) (fun _ h=>by cases h) topAlignedUpto_row_tie rfl ⟨rfl,rfl⟩ (by kernel_rfl) rfl plain (by kernel_rfl)
end Go.Proofs.YthomjcjnalfipaaGreatDoor.rowTopAligned
#print axioms Go.Proofs.YthomjcjnalfipaaGreatDoor.rowTopAligned.proved
