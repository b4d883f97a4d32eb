/- A part of the proofs of the Top laws. -/
import Derived.Deep.Quiet
import Derived.Deep.Cut
import Derived.Deep.CutRange
import Derived.Test.YthomjcjnalfipaaGreatDoorRows
import Derived.ProofKit
import Derived.OpenShut
import Derived.ChangeOld
import Derived.Deep.Fields
import Derived.Test.YthomjcjnalfipaaGreatDoorYB25
set_option linter.all false
set_option maxRecDepth 100000
set_option maxHeartbeats 16000000
open Go.Lib (hid)
namespace Go.Proofs.YthomjcjnalfipaaGreatDoor
open Go.RowKit
def CompPost (base:Nat) (l:List Rule) (e:Ending) (w:World):Prop:=
 if 400<(headsF l).length then e=.returned (.tuple #[.slice none 0 0,.agg #[.int .i64 5,.int .i64 0]])
 else ∃ v,e=.returned (.tuple #[v,.agg #[.int .i64 0,.int .i64 0]])/\RowR rHd 208 3 base w v (headsF l)
theorem Compile_ok (A:Option Addr) (n c:Nat) (l:List Rule) (w:World) (h:Rules w A n c l) (hr:(wrongRules l).1=0) :
  Calls Tryz.prog 99 #[.slice A n c] w fun e w'=>CompPost w.heap.size l e w'/\Ext w w':=by
 obtain⟨hr0,hl2,hok⟩:=wrongRules_zero hr;have hcap:=h.cap;have hlen:=hid h.len;have hn2:n<=200:=by rw[<- h.len];exact hl2
 have OK:=hid hok;clear hok
 have HM:Hid (∀ r∈l,(r.source.headD []).length<=200):=hid fun r hr=>by
  cases hq:r.source with
  | nil=>simp
  | cons S R=>exact (good_of ((OK.out r hr).s S (by rw[hq];simp))).len
 have e1:=(Ext.refl w).alloc (.cells #[.int .i64 0,.int .i64 0] 34);have k0:(w.alloc (.cells #[.int .i64 0,.int .i64 0] 34)).cell? ⟨w.heap.size,0,none⟩=some (.int .i64 0):=by simp
 have k1:(w.alloc (.cells #[.int .i64 0,.int .i64 0] 34)).cell? ⟨w.heap.size,1,none⟩=some (.int .i64 0):=by simp
 have wb:=Wr.new w #[.int .i64 0,.int .i64 0] 34;have hs1:w.heap.size+1=(w.alloc (.cells #[.int .i64 0,.int .i64 0] 34)).heap.size:=by simp
 have HC:=Wrongs_any A n c l _ (h.ext e1);rw[hr0] at HC;replace HC:=hid HC;go_enter Tryz.func99,Tryz.ntmps99;go_wp2_with fail;generalize w.alloc (.cells #[.int .i64 0,.int .i64 0] 34)=w1 at *;go_wp2_with (go_at_call 28;refine HC.out.mono ?_;rintro e w2 ⟨rfl,hx2⟩);have e3:=(hx2.alloc (.cells #[.int .i64 0,.int .i64 0] 34))
 have s3:=e3.size;have o3:=OwnR.fresh (R:=rRune) (e:=21) (sz:=1) (base:=w1.heap.size) (w:=w2.alloc (.cells #[.int .i64 0,.int .i64 0] 34)) (l:=[0]) (cs:=[.int .i32 0]) s3 (by unfold maxLen;simp) (Enc.sing rfl ⟨rfl,by omega,by omega⟩);have e4:=e3.alloc (.cells #[.int .i32 0] 21);have o4:OwnR rRune 21 1 w1.heap.size ((w2.alloc (.cells #[.int .i64 0,.int .i64 0] 34)).alloc (.cells #[.int .i32 0] 21)) (.slice (some ⟨w2.heap.size+1,0,none⟩) 1 1) (0::firstEdges (l.take 0)):=by simpa [firstEdges] using o3
 clear o3 e3 s3;generalize ((w2.alloc (.cells #[.int .i64 0,.int .i64 0] 34)).alloc (.cells #[.int .i32 0] 21))=w4 at *;go_loopw [5,26] (fun v i wr=>∃ k:Nat,k<=n/\i=.int .i64 k/\OwnR rRune 21 1 w1.heap.size wr v (0::firstEdges (l.take k))/\Ext w1 wr) (fun _ i _=>n-(intOf i).toNat);case atStart=>exact⟨0,by omega,rfl,o4,e4⟩
 case round=>
  obtain⟨k,hk,rfl,o,hx⟩:=hrel;have exw:=e1.trans hx;by_cases hlt:k<n
  ·obtain⟨r,hrr⟩:=h.idx hlt;obtain⟨b,off,s,f,A1,n1,c1,A2,n2,c2,A3,n3,c3,A4,n4,c4,q,rfl,⟨hb0,_⟩,hv,c0,c1',c2',c3',c4',c5',c6'⟩:=h.rule hrr;have hne:b≠wr.heap.size:=by have:=exw.size;omega
   replace c0:=exw.cell c0;replace c1':=exw.cell c1';replace c2':=exw.cell c2';replace c3':=exw.cell c3';replace c4':=exw.cell c4';replace c5':=exw.cell c5';replace c6':=exw.cell c6';have hoks:=OK.out r (List.mem_of_getElem? hrr)
   obtain⟨S,R,hS⟩:∃ S R,r.source=S::R:=by
    have:=hoks.s0
    cases hq:r.source with
    | nil=>rw[hq] at this;simp at this
    | cons S R=>exact⟨S,R,rfl⟩
   have hSS:r.source[0]? =some S:=by rw[hS];rfl
   have hn2p:0<n2:=by rw[<- hv.source.len];exact hoks.s0
   have hn2i:(0:Int)<(n2:Int):=by omega
   obtain⟨b2,off2,A',n',c',rfl,⟨hb2,_⟩,hc,hsl⟩:=hv.source.sl hSS;have hne2:b2≠wr.heap.size/\b2<wr.heap.size:=by have:=exw.size;omega
   have FK:=hid (firstEdges_snoc (l.take k) r);have TK:=hid (take_snoc hrr);have HD:Hid (r.source.headD []=S):=hid (by rw[hS];rfl);have ea:=(Ext.refl wr).alloc (.cells #[.bool s,.bool f,.slice A1 n1 c1,.slice (some ⟨b2,off2,none⟩) n2 c2,.slice A3 n3 c3,.slice A4 n4 c4,.int .i64 q] 61);replace hc:wr.cell? ⟨b2,off2,none⟩=some (.slice A' n' c'):=exw.cell (by simpa using hc);have hc5:=ea.cell hc;have o5:=o.ext (keep_rune bot) ea;have exA:=hx.trans ea;have hS':=hS;clear hrr hS hSS hv;go_wp2;generalize (wr.alloc (.cells #[.bool s,.bool f,.slice A1 n1 c1,.slice (some ⟨b2,off2,none⟩) n2 c2,.slice A3 n3 c3,.slice A4 n4 c4,.int .i64 q] 61))=w5 at *;have wkS:wrongSet S=0:=hoks.s S (by rw[hS'];simp);have GS:=hid (good_of wkS);have hn':n'<=200:=by rw[<- hsl.len];exact GS.out.len
   have hl5:=hid hsl.len;go_loopw [5,35] (fun v i wr2=>∃ j:Nat,j<=n'/\i=.int .i64 j/\OwnR rRune 21 1 w1.heap.size wr2 v (0::(firstEdges (l.take k)++spEdges (S.take j)))/\Ext w1 wr2) (fun _ i _=>n'-(intOf i).toNat);case atStart=>exact⟨0,by omega,rfl,by simpa [spEdges] using o5,exA⟩
   case round=>
    obtain⟨j,hj,rfl,oj,hxj⟩:=hrel;by_cases hlj:j<n'
    ·obtain⟨x,hxx⟩:=hsl.idx hlj;obtain⟨b3,off3,rfl,⟨_,hne3⟩,hlo,hhi,hb1,hb2'⟩:=(hsl.ext (keep_span top) (e1.trans hxj)).span hxx;have G:=GS.out.rng x (List.mem_of_getElem? hxx);have hwp:IntKind.i32.wrap (x.hi+1)=x.hi+1:=IntWalk.i32_in _ (by omega);have hz1:=(Ext.refl wr).alloc (.cells #[.int .i32 x.lo,.int .i32 x.hi] 30);have hz2:=hz1.alloc (.cells #[.int .i32 x.lo,.int .i32 (x.hi+1)] 21);have XB:=hid (hxj.trans hz2);have OA:=hid (oj.ext (keep_rune bot) hz2);have SA:=hid (rune_two (w:=wr.alloc (.cells #[.int .i32 x.lo,.int .i32 x.hi] 30)) (x:=x.lo) (y:=x.hi+1) 21 ⟨by omega,by omega⟩ ⟨by omega,by omega⟩);simp only[World.size_alloc] at SA;have TJ:=hid (take_snoc hxx)
     have HLEN:Hid ((0::(firstEdges (l.take k)++spEdges (S.take j))).length<=90000):=hid (by
      have h1:=firstEdges_len (l.take k) (m:=200) (fun r hr=>HM.out r (List.mem_of_mem_take hr));have h2:=spEdges_len (S.take j);simp only[List.length_cons,List.length_append,List.length_take] at h1 h2 ⊢
      omega)
     have SZ:=hid XB.out.size;clear hxx G hz1 hz2 oj;go_wp2_with (at_builtin;refine wpList_app T_rune rfl (.tmp 39) (.tmp 45) rfl rfl OA.out rfl SA.out (fun _ _ h=>h) one_rune (keep_rune bot) (bot_no _) (by have:=HLEN.out;omega) (by unfold maxLen;have:=HLEN.out;omega) SZ.out ?_;intro v2 w6 o6 g6 hat6;have e6:=XB.out.grown g6 (fun q hq=>(OA.out.lt q hq).1));go_roundw;case rel=>exact⟨j+1,by omega,by go_num,by rw[TJ.out,spEdges_snoc,<- List.append_assoc];exact o6,e6⟩
     case measure=>simp[intOf];omega
    ·have hje:spEdges (S.take j)=spEdges S:=by rw[List.take_of_length_le (by rw[hl5.out];omega)]
     rw[hje] at oj;go_wp2;go_roundw;case rel=>exact⟨k+1,by omega,by go_num,by rw[TK.out,FK.out,HD.out];exact oj,hxj⟩
     case measure=>simp[intOf];omega
  ·have hke:firstEdges (l.take k)=firstEdges l:=by rw[List.take_of_length_le (by rw[hlen.out];omega)]
   rw[hke] at o
   have HLEN:(0::firstEdges l).length<=90000:=by
    have h1:=firstEdges_len l (m:=200) HM.out;simp only[List.length_cons];omega
   obtain⟨g,cap,rfl,hgb,HS⟩:=edgesRow o (by simp) hx (Nat.le_refl _) (by omega);replace HS:=hid HS;have HE:Hid (upL (0::firstEdges l)=edgesF l):=hid rfl;clear o
   go_wp2_with (first
    | (go_at_call 134;refine HS.out.mono ?_;rintro e w3 ⟨rfl,hx3,HP⟩;replace HP:=hid (HP w3 (Ext.refl _)))
    | (go_at_call 135;refine HP.out.mono ?_;rintro e w5 ⟨rfl,hx5,hE⟩;rw[HE.out] at hE ⊢))
   have hEl:=hid hE.len;generalize hm:(edgesF l).length=m at *;have hm2:m<=90000:=by rw[<- hm,<- HE.out];exact Nat.le_trans (by rw[HE.out];exact edgesF_len l) HLEN
   clear HS HP;go_loopw [10,55] (fun v i wr=>∃ (k:Nat) (out:List Hd),k<=m/\i=.int .i64 k/\RowR rHd 208 3 w5.heap.size wr v out/\headsF l=headsGo l ((edgesF l).drop k) out/\out.length<=k/\Ext w5 wr) (fun _ i _=>m-(intOf i).toNat);case atStart=>exact⟨0,[],by omega,rfl,RowR.nil _ _ _ _ _,rfl,by simp,Ext.refl _⟩
   case round=>
    obtain⟨k,out,hk,rfl,hR,hG,hol,hx⟩:=hrel;have exw:=e1.trans (hx5.trans hx);by_cases hlt:k<m
    ·obtain⟨e,hee⟩:=hE.idx hlt;obtain⟨bE,oE,hEq,⟨_,hneE⟩,hcE,hl1,hl2'⟩:=(hE.ext hx).rune hee;cases hEq;rw[Nat.zero_add] at hcE;have hd:=drop_cons hee;have hkm:(k:Int)<(m:Int):=by omega
     by_cases hbr:1114111<e
     ·have hF:headsF l=out:=by rw[hG,hd];unfold headsGo;rw[if_pos hbr]
      have hbd:decide ((1114111:Int)<e)=true:=decide_eq_true hbr;obtain⟨A9,c9,rfl⟩:=hR.form;have y0:=(hx5.trans hx).cell k0;have y1:=(hx5.trans hx).cell k1;have wr9:=wb.ext (hx5.trans hx);have wz:=wr9.2;have hR2:=hR.low (show w.heap.size<=w5.heap.size by have:=(e1.trans hx5).size;omega);have CP:=hid hF;have hB:w.heap.size<w5.heap.size:=by have:=hx5.size;omega
      generalize hol2:out.length=q at *;by_cases hbig:400<q
      ·have hbi:decide ((400:Int)<(q:Int))=true:=decide_eq_true (by omega);go_wp2;refine bodyPost_ret (v:=.tuple #[.slice none 0 0,.agg #[.int .i64 5,.int .i64 0]]) (by simp[results,Tryz.results99,go_sem,y0,y1]) rfl ?_;exact⟨by unfold CompPost;rw[CP.out,hol2,if_pos hbig],ext_set (ext_set exw (Nat.le_refl _) _ _) (Nat.le_refl _) _ _⟩
      ·have hbi:decide ((400:Int)<(q:Int))=false:=decide_eq_false (by omega);go_wp2;refine bodyPost_ret (v:=.tuple #[.slice A9 q c9,.agg #[.int .i64 0,.int .i64 0]]) (by simp[results,Tryz.results99,go_sem,y0,y1]) rfl ?_;refine⟨?_,ext_set (ext_set exw (Nat.le_refl _) _ _) (Nat.le_refl _) _ _⟩;unfold CompPost;rw[CP.out,hol2,if_neg hbig];refine⟨_,rfl,?_⟩;exact ((hR.offB fam_hd hB _ _).offB fam_hd hB _ _).low (by omega)
     ·have hbd:decide ((1114111:Int)<e)=false:=decide_eq_false hbr;have HGO:Hid (headsF l=headsGo l ((edgesF l).drop (k+1)) (addH out ⟨e,nextHi ((edgesF l).drop (k+1)),rulesAt 0 l e⟩)):=hid (by rw[hG,hd,headsGo,if_neg hbr]);have hup:Up (edgesF l):=up_upL _;obtain⟨hi,hhi⟩:∃ z,nextHi ((edgesF l).drop (k+1))=z:=⟨_,rfl⟩
      rw[hhi] at HGO;have hH0:=HdV.new wr e 1114111 none 0 0 208;have hxa:=(Ext.refl wr).alloc (.cells #[.int .i32 e,.int .i32 1114111,.slice none 0 0] 208);have HOL:=hid hol;obtain⟨A9,c9,rfl⟩:=hR.form;have HR:=hid hR;have HX:=hid hx;have EW:=hid exw;have i1:i32 e:=⟨hl1,hl2'⟩
      clear hR hG hol hd hbr HE;generalize hql:out.length=ql at *;have HQL:=hid hql;clear hql;have HHI:=hid hhi;have HUP:=hid hup;have HEE:=hid hee;clear hhi hup hee;by_cases hn:k+1<m
      case' neg=>
       have hk1:¬ (k:Int)+1<(m:Int):=by omega
       have hk1d:decide ((k:Int)+1<(m:Int))=false:=decide_eq_false hk1;have hhi':hi=1114111:=by rw[<- HHI.out,List.drop_of_length_le (by omega)];rfl
       have FH:HdV (wr.alloc (.cells #[.int .i32 e,.int .i32 1114111,.slice none 0 0] 208)) wr.heap.size e hi none 0 0:=by rw[hhi'];exact hH0
       have XH:=hxa;have i2:i32 hi:=by rw[hhi'];unfold i32;omega
       clear hH0 hxa hhi';go_upto_region 24 with fail;generalize wr.alloc (.cells #[.int .i32 e,.int .i32 1114111,.slice none 0 0] 208)=wh at *
      case' pos=>
       obtain⟨e',hee'⟩:=hE.idx hn
       have hlt':e<e':=by
        obtain⟨p1,q1⟩:=List.getElem?_eq_some_iff.1 HEE.out;obtain⟨p2,q2⟩:=List.getElem?_eq_some_iff.1 hee';rw[<- q1,<- q2];exact List.pairwise_iff_getElem.1 HUP.out k (k+1) p1 p2 (by omega)
       have hhi':hi=e'-1:=by rw[<- HHI.out,drop_cons hee'];rfl
       obtain⟨bE',oE',hEq',⟨_,hneE'⟩,hcE',hl3,hl4⟩:=(hE.ext hx).rune hee';cases hEq';rw[Nat.zero_add] at hcE';have hcE2:=hxa.cell hcE';have hw:IntKind.i32.wrap (e'-1)=e'-1:=IntWalk.i32_in _ (by omega);have hk1:(k:Int)+1<(m:Int):=by omega
       have hk1d:decide ((k:Int)+1<(m:Int))=true:=decide_eq_true hk1;have FH:HdV (wr.alloc (.cells #[.int .i32 e,.int .i32 (e'-1),.slice none 0 0] 208)) wr.heap.size e hi none 0 0:=by rw[hhi'];exact HdV.new _ _ _ _ _ _ _
       have XH:=(Ext.refl wr).alloc (.cells #[.int .i32 e,.int .i32 (e'-1),.slice none 0 0] 208);have i2:i32 hi:=by rw[hhi'];unfold i32;omega
       have h00:=hH0.h1;have hzz:=hH0.fz;have hll:=hH0.lt;clear hee' hH0 hlt' hhi';go_upto_region 24 with fail;clear h00 hzz hll hcE2 hxa;generalize wr.alloc (.cells #[.int .i32 e,.int .i32 (e'-1),.slice none 0 0] 208)=wh at *
      all_goals
       have FH2:=hid FH;have XH2:=hid XH;have hszH:=FH.lt.1;have HS0:=hid (show OwnR rInt 3 1 (wr.heap.size+1) wh (.slice none 0 0) (rulesAt 0 (l.take 0) e) from OwnR.nil _ _ _ _ _);clear FH XH hk1 hk1d;generalize wr=wo at *;go_wp2_with fail;go_loopw [78] (fun v wr=>∃ (j:Nat) (A4:Option Addr) (n4 c4:Nat),j<=n/\v=.int .i64 j/\HdV wr wo.heap.size e hi A4 n4 c4/\OwnR rInt 3 1 (wo.heap.size+1) wr (.slice A4 n4 c4) (rulesAt 0 (l.take j) e)/\Ext wo wr) (fun v _=>n-(intOf v).toNat);case atStart=>exact⟨0,none,0,0,by omega,rfl,FH2.out,HS0.out,XH2.out⟩
       case round=>
        obtain⟨j,A4,n4,c4,hj,rfl,F4,O4,x4⟩:=hrel;have exw4:=EW.out.trans x4;by_cases hlj:j<n
        ·obtain⟨r,hrr⟩:=h.idx hlj;obtain⟨b,off,s,f,A1,n1,c1,A2,n2,c2,A3,n3,c3,A5,n5,c5,q,rfl,⟨hb0,_⟩,hv,c0,c1',c2',c3',c4',c5',c6'⟩:=h.rule hrr;have hne:b≠wr.heap.size:=by have:=exw4.size;omega
         replace c0:=exw4.cell c0;replace c1':=exw4.cell c1';replace c2':=exw4.cell c2';replace c3':=exw4.cell c3';replace c4':=exw4.cell c4';replace c5':=exw4.cell c5';replace c6':=exw4.cell c6';have hoks:=OK.out r (List.mem_of_getElem? hrr)
         obtain⟨S,Rr,hS⟩:∃ S Rr,r.source=S::Rr:=by
          have:=hoks.s0
          cases hq:r.source with
          | nil=>rw[hq] at this;simp at this
          | cons S Rr=>exact⟨S,Rr,rfl⟩
         have hSS:r.source[0]? =some S:=by rw[hS];rfl
         have hn2p:0<n2:=by rw[<- hv.source.len];exact hoks.s0
         have hn2i:(0:Int)<(n2:Int):=by omega
         obtain⟨b2,off2,A',n',c',rfl,⟨hb2,_⟩,hc,hsl⟩:=hv.source.sl hSS;have hne2:b2≠wr.heap.size/\b2<wr.heap.size:=by have:=exw4.size;omega
         have wkS:wrongSet S=0:=hoks.s S (by rw[hS];simp);have HRS:=hid (rulesAt_snoc (e:=e) (l.take j) 0 r);have TK:=hid (take_snoc hrr);have HD:Hid (r.source.headD []=S):=hid (by rw[hS];rfl);have HJ:Hid ((l.take j).length=j):=hid (by rw[List.length_take,hlen.out];omega);have ea:=(Ext.refl wr).alloc (.cells #[.bool s,.bool f,.slice A1 n1 c1,.slice (some ⟨b2,off2,none⟩) n2 c2,.slice A3 n3 c3,.slice A5 n5 c5,.int .i64 q] 61);replace hc:wr.cell? ⟨b2,off2,none⟩=some (.slice A' n' c'):=exw4.cell (by simpa using hc);have HHas:=hid (fun W (e1:Ext wr W)=>setsHas_any A' n' c' S e W (hsl.ext (keep_span top) (exw4.trans e1)) wkS);have F4h:=hid F4;have O4h:=hid O4;have X4:=hid x4;have hnw:wo.heap.size<wr.heap.size:=F4.lt.1;clear hrr hS hSS hv hsl F4 O4 x4;cases hh:has S e
         ·have HH:=hid hh;clear hh;go_wp2_with (go_at_call 14;refine (HHas.out _ ea).mono ?_;rintro e w6 ⟨rfl,hx6⟩;rw[HH.out]);go_roundw;case rel=>exact⟨j+1,A4,n4,c4,by omega,by go_num,F4h.out.ext (ea.trans hx6),by rw[TK.out,HRS.out,HD.out,HH.out];simpa using O4h.out.ext (keep_intO bot) (ea.trans hx6),X4.out.trans (ea.trans hx6)⟩
          case measure=>simp[intOf];omega
         ·have HH:=hid hh;clear hh;have hrl:=rulesAt_len (e:=e) (l.take j) 0;rw[HJ.out] at hrl
          go_wp2_with (first
           | (go_at_call 14;refine (HHas.out _ ea).mono ?_;rintro e w6 ⟨rfl,hx6⟩;rw[HH.out];have x6:=ea.trans hx6;have F6:=F4h.out.ext x6;have p2:=F6.h2;have f7:=(Ext.refl w6).alloc (.cells #[.int .i64 j] 3);have O7:=hid (O4h.out.ext (keep_intO bot) (x6.trans f7));have S7:=hid (one_newI w6 j 3 (by unfold i64;omega));have F7:=hid (F6.ext f7);have X7:=hid (X4.out.trans (x6.trans f7));clear F6 hx6)
           | (at_builtin;refine wpList_appS T_int (by omega) rfl (.tmp 90) (.tmp 92) rfl rfl O7.out rfl S7.out (fun _ _ h=>h) one_int (keep_int bot) (bot_no _) (by omega) (by have:=F7.out.lt;omega) ?_;intro v8 w8 o8 g8 hat8;have x8:=X7.out.grown g8 (fun k hk=>by have:=(O7.out.lt k hk).1;omega);have F8:=F7.out.keep (g8.block _ F7.out.lt.1 (fun hk=>by have:=(O7.out.lt _ hk.symm).1;omega)) g8.size;have HN8:=hid (show rulesAt 0 (l.take (j+1)) e=rulesAt 0 (l.take j) e++[(j:Int)] by rw[TK.out,HRS.out,HD.out,HH.out,if_pos rfl,HJ.out,Nat.zero_add]);rw[<- HN8.out] at o8;obtain⟨A8,c8,hv8,_⟩:=o8.form;generalize (rulesAt 0 (l.take (j+1)) e).length=N8 at hv8;subst hv8;have q2:=F8.h2;have qz:=F8.fz;have ql8:=F8.lt))
          go_roundw;case rel=>exact⟨j+1,A8,N8,c8,by omega,by go_num,F8.set2 A8 N8 c8,o8.offI (Nat.lt_succ_self _) 2 _,ext_set x8 (Nat.le_refl _) _ _⟩
          case measure=>simp[intOf];omega
        ·have hjn:l.take j=l:=List.take_of_length_le (by rw[hlen.out];omega);rw[hjn] at O4;have F4h:=hid F4;have O4h:=hid O4;have X4:=hid x4;have HRw:=hid (HR.out.ext fam_hd x4);have hmm:=hm2;have hol2:=HOL.out;clear F4 O4 x4 hjn;rcases List.eq_nil_or_concat out with ho | ⟨o,z,ho⟩
         ·subst ho;have hq0:ql=0:=by rw[<- HQL.out];rfl
          subst hq0;have HADD:=hid (show addH [] ⟨e,hi,rulesAt 0 l e⟩=[]++[(⟨e,hi,rulesAt 0 l e⟩:Hd)] from rfl);go_wp2;go_quiet (fail);have DQ:=(Ext.refl wr).drewN nq;have HRQ:=hid (HRw.out.ext fam_hd DQ);have FQ:=hid (F4h.out.ext DQ);have OQ:=hid (O4h.out.ext (keep_intO bot) DQ);have XQ:=hid (X4.out.trans DQ);clear DQ;generalize wr.drewN nq=wq at *;have p0:=FQ.out.h0;have p1:=FQ.out.h1;have p2:=FQ.out.h2;have pl:=FQ.out.lt;have ZQ:=(Ext.refl wq).alloc (.cells #[.int .i32 e,.int .i32 hi,.slice A4 n4 c4] 208)
          have HAQ:Hid (HdA (fun b=>wo.heap.size<=b/\b<wq.heap.size) wq A4 n4 c4 ⟨e,hi,rulesAt 0 l e⟩):=hid ⟨i1,i2,by
           obtain⟨A',c',e',hs⟩:=OQ.out.sl;cases e'
           exact (SlR.lt (by omega) hs).mono (fun _ _ h=>h) (fun b hb=>⟨by omega,hb.2⟩)⟩
          have CLQ:Hid (Clear (fun b=>wo.heap.size<=b/\b<wq.heap.size) w5.heap.size (wq.alloc (.cells #[.int .i32 e,.int .i32 hi,.slice A4 n4 c4] 208)) (.slice A9 0 c9)):=hid fun i hi2=>⟨by have:=HX.out.size;omega,by simp only[World.size_alloc];omega,fun g hg=>by have:=(HR.out.lt g hg).2;omega⟩
          go_wp2_with (at_builtin;refine wpList_rowB fam_hd T_hd rfl (.tmp 117) (.tmp 119) rfl rfl (HRQ.out.ext fam_hd ZQ) rfl (hd_one 208 HAQ.out) CLQ.out (by have:=HOL.out;have:=HQL.out;omega) (by unfold maxLen;have:=HOL.out;have:=HQL.out;omega) (by have:=XQ.out.size;have:=HX.out.size;simp only[World.size_alloc];omega) ?_;intro v9 w9 r9 g9;have hx9:=(HX.out.trans (XQ.out.trans ZQ)).grown g9 (fun k hk=>(HRQ.out.lt k hk).1));go_roundw;case rel=>exact⟨k+1,addH [] ⟨e,hi,rulesAt 0 l e⟩,by omega,by go_num,by rw[HADD.out];exact r9,HGO.out,by have:=addH_length [] ⟨e,hi,rulesAt 0 l e⟩;have:=HOL.out;have:=HQL.out;omega,hx9⟩
          case measure=>simp[intOf];omega
         ·rw[List.concat_eq_append] at ho;subst ho;obtain⟨g9,hA9,hq9,hg9⟩:=HR.out.headAt;subst hA9;obtain⟨b9,off9,A',n',c',e9,⟨_,hne9⟩,hda,hc90,hc91,hc92⟩:=SlR.hd (k:=o.length) (x:=z) (by obtain⟨A1,c1,e1,hs⟩:=HRw.out.sl fam_hd;cases e1;exact hs) (by simp);cases e9;rw[Nat.zero_add] at hc90 hc91 hc92;have hq1:ql=o.length+1:=hq9;have hw9:IntKind.i64.wrap ((ql:Int)-1)=(o.length:Int):=by rw[IntWalk.i64_in _ (by omega)];omega
          have hol3:(o.length:Int)<(ql:Int):=by omega
          have g0:(0:Int)<=(o.length:Int):=by omega
          have g0d:decide ((o.length:Int) ≥ 0)=true:=decide_eq_true g0;have HQ1:=hid hq1;clear hq1 hq9;have HI4:Ints wr A4 n4 c4 (rulesAt 0 l e):=by obtain⟨A1,c1,e1,hs⟩:=O4h.out.top;cases e1;exact hs
          have HIz:Ints wr A' n' c' z.rules:=hda.rs.mono (fun _ _ h=>h) (fun _ _=>trivial);have HEq:=hid (fun pF:Far wr=>(EqualI_any A' A4 n' c' n4 c4 z.rules (rulesAt 0 l e) pF.out (HIz.ext (keep_intO top) pF.ext) (HI4.ext (keep_intO top) pF.ext)).mono fun en w' h=>(⟨h.1,by obtain⟨_,q,rfl⟩:=h;exact (Ext.refl _).drewN q⟩:en=.returned (.bool (decide (z.rules=rulesAt 0 l e)))/\Ext pF.out w'));clear HI4 HIz;have hfr:=hid (show ∀ i,wr.frozen? ⟨g9,i,none⟩=false from by obtain⟨ok,ow,_⟩:=HRw.out;exact (OwnR.loose ow rfl).2);have p2:=F4h.out.h2;by_cases heq:z.rules=rulesAt 0 l e
          ·have HEq1:=hid (fun pF:Far wr=>(show Calls Tryz.prog 136 #[.slice A' n' c',.slice A4 n4 c4] pF.out fun e w'=>e=.returned (.bool true)/\Ext pF.out w' from by have:=HEq.out pF;rwa [decide_eq_true heq] at this));have HADD:=hid (show addH (o++[z]) ⟨e,hi,rulesAt 0 l e⟩=o++[{ z with hi:=hi }] by rw[addH_last,if_pos heq]);clear HEq heq;go_wp2;have f92:=fun pF:Far wr=>pF.ext.cell hc92;have f42:=fun pF:Far wr=>pF.ext.cell p2;refine wp_region_far (by kernel_rfl) (by kernel_rfl) ?_
           repeat (quiet_step (first | (go_at_call 136;refine Calls.far_of (HEq1.out _))))
           refine wpQuiet_nil ?_;intro wq hw';obtain⟨pf,hw2⟩:=hw';have DQ:Ext wr wq:=by rw[hw2];exact pf.ext
           clear hw2 pf f92 f42 p2;have HRQ:=hid (HRw.out.ext fam_hd DQ);have FQ:=hid (F4h.out.ext DQ);have OQ:=hid (O4h.out.ext (keep_intO bot) DQ);have XQ:=hid (X4.out.trans DQ);have hfq:∀ i,wq.frozen? ⟨g9,i,none⟩=false:=fun i=>(DQ.frozen (HRw.out.lt g9 rfl).2).trans (hfr.out i);have hcq:=DQ.cell hc91;clear DQ hc90 hc91 hc92;have p0:=FQ.out.h0;have p1:=FQ.out.h1;have p2:=FQ.out.h2;have pl:=FQ.out.lt;have hg9l:g9<wq.heap.size/\g9≠wq.heap.size:=by have:=(HRQ.out.lt g9 rfl).2;omega
           go_wp2;go_roundw;case rel=>exact⟨k+1,o++[{ z with hi:=hi }],by omega,by go_num,HRQ.out.setHi i2,by rw[<- HADD.out];exact HGO.out,by have:=HOL.out;simp;omega,ext_set (HX.out.trans XQ.out) hg9 _ _⟩
           case measure=>simp[intOf];omega
          ·have HEq1:=hid (fun pF:Far wr=>(show Calls Tryz.prog 136 #[.slice A' n' c',.slice A4 n4 c4] pF.out fun e w'=>e=.returned (.bool false)/\Ext pF.out w' from by have:=HEq.out pF;rwa [decide_eq_false heq] at this));have HADD:=hid (show addH (o++[z]) ⟨e,hi,rulesAt 0 l e⟩=(o++[z])++[(⟨e,hi,rulesAt 0 l e⟩:Hd)] by rw[addH_last,if_neg heq];simp);clear HEq heq;go_wp2;have f92:=fun pF:Far wr=>pF.ext.cell hc92;have f42:=fun pF:Far wr=>pF.ext.cell p2;refine wp_region_far (by kernel_rfl) (by kernel_rfl) ?_
           repeat (quiet_step (first | (go_at_call 136;refine Calls.far_of (HEq1.out _))))
           refine wpQuiet_nil ?_;intro wq hw';obtain⟨pf,hw2⟩:=hw';have DQ:Ext wr wq:=by rw[hw2];exact pf.ext
           clear hw2 pf f92 f42 p2;have HRQ:=hid (HRw.out.ext fam_hd DQ);have FQ:=hid (F4h.out.ext DQ);have OQ:=hid (O4h.out.ext (keep_intO bot) DQ);have XQ:=hid (X4.out.trans DQ);have hcq:=DQ.cell hc91;clear DQ hc90 hc91 hc92;have p0:=FQ.out.h0;have p1:=FQ.out.h1;have p2:=FQ.out.h2;have pl:=FQ.out.lt;have ZQ:=(Ext.refl wq).alloc (.cells #[.int .i32 e,.int .i32 hi,.slice A4 n4 c4] 208)
           have HAQ:Hid (HdA (fun b=>wo.heap.size<=b/\b<wq.heap.size) wq A4 n4 c4 ⟨e,hi,rulesAt 0 l e⟩):=hid ⟨i1,i2,by
            obtain⟨A',c',e',hs⟩:=OQ.out.sl;cases e'
            exact (SlR.lt (by omega) hs).mono (fun _ _ h=>h) (fun b hb=>⟨by omega,hb.2⟩)⟩
           have CLQ:Hid (Clear (fun b=>wo.heap.size<=b/\b<wq.heap.size) w5.heap.size (wq.alloc (.cells #[.int .i32 e,.int .i32 hi,.slice A4 n4 c4] 208)) (.slice (some ⟨g9,0,none⟩) ql c9)):=hid fun i hi2=>⟨by have:=HX.out.size;omega,by simp only[World.size_alloc];omega,fun g hg=>by have:=(HR.out.lt g hg).2;omega⟩
           go_wp2_with (at_builtin;refine wpList_rowB fam_hd T_hd rfl (.tmp 117) (.tmp 119) rfl rfl (HRQ.out.ext fam_hd ZQ) rfl (hd_one 208 HAQ.out) CLQ.out (by have:=HOL.out;have:=HQL.out;omega) (by unfold maxLen;have:=HOL.out;have:=HQL.out;omega) (by have:=XQ.out.size;have:=HX.out.size;simp only[World.size_alloc];omega) ?_;intro v9 w9 r9 g9;have hx9:=(HX.out.trans (XQ.out.trans ZQ)).grown g9 (fun k hk=>(HRQ.out.lt k hk).1));go_roundw;case rel=>exact⟨k+1,addH (o++[z]) ⟨e,hi,rulesAt 0 l e⟩,by omega,by go_num,by rw[HADD.out];exact r9,HGO.out,by have:=addH_length (o++[z]) ⟨e,hi,rulesAt 0 l e⟩;have:=HOL.out;have:=HQL.out;omega,hx9⟩
           case measure=>simp[intOf];omega
    ·have hF:headsF l=out:=by rw[hG,List.drop_of_length_le (by rw[hm];omega)];rfl
     obtain⟨A9,c9,rfl⟩:=hR.form;have y0:=(hx5.trans hx).cell k0;have y1:=(hx5.trans hx).cell k1;have wr9:=wb.ext (hx5.trans hx);have wz:=wr9.2;have hR2:=hR.low (show w.heap.size<=w5.heap.size by have:=(e1.trans hx5).size;omega);have CP:=hid hF;have hB:w.heap.size<w5.heap.size:=by have:=hx5.size;omega
     generalize hol2:out.length=q at *;by_cases hbig:400<q
     ·have hbi:decide ((400:Int)<(q:Int))=true:=decide_eq_true (by omega);go_wp2;refine bodyPost_ret (v:=.tuple #[.slice none 0 0,.agg #[.int .i64 5,.int .i64 0]]) (by simp[results,Tryz.results99,go_sem,y0,y1]) rfl ?_;exact⟨by unfold CompPost;rw[CP.out,hol2,if_pos hbig],ext_set (ext_set exw (Nat.le_refl _) _ _) (Nat.le_refl _) _ _⟩
     ·have hbi:decide ((400:Int)<(q:Int))=false:=decide_eq_false (by omega);go_wp2;refine bodyPost_ret (v:=.tuple #[.slice A9 q c9,.agg #[.int .i64 0,.int .i64 0]]) (by simp[results,Tryz.results99,go_sem,y0,y1]) rfl ?_;refine⟨?_,ext_set (ext_set exw (Nat.le_refl _) _ _) (Nat.le_refl _) _ _⟩;unfold CompPost;rw[CP.out,hol2,if_neg hbig];refine⟨_,rfl,?_⟩;exact ((hR.offB fam_hd hB _ _).offB fam_hd hB _ _).low (by omega)
end Go.Proofs.YthomjcjnalfipaaGreatDoor
namespace Go.Proofs.YthomjcjnalfipaaGreatDoor
theorem check_parts {l:List Rule} {t:List Int} (h:(checkRun l t).1=0):(wrongRules l).1=0/\wrongText t=0:=by
 by_cases hz:(wrongRules l).1=0
 ·rw[checkRun_text hz] at h;exact⟨hz,h⟩
 ·rw[checkRun_rules hz] at h;exact absurd h hz
theorem text_parts {t:List Int} (h:wrongText t=0):t.length<=4000/\t.all right=true:=by
 unfold wrongText at h;by_cases h1:4000<t.length
 ·rw[if_pos h1] at h;simp at h
 ·rw[if_neg h1] at h
  cases h2:t.all right with
  | true=>exact⟨by omega,rfl⟩
  | false=>rw[h2] at h;simp at h
end Go.Proofs.YthomjcjnalfipaaGreatDoor
namespace Go.Proofs.YthomjcjnalfipaaGreatDoor
def rowsL:List (Int×Int×Int):=[(97,122,32),(224,246,32),(248,254,32),(945,961,32),(963,969,32),(1072,1103,32),(1104,1119,80)]
def upGo:List (Int×Int×Int)->Int->Int
 | [],r=>r
 | x::l,r=>if x.1<=r/\r<=x.2.1 then r-x.2.2 else upGo l r
def loGo:List (Int×Int×Int)->Int->Int
 | [],r=>r
 | x::l,r=>if x.1-x.2.2<=r/\r<=x.2.1-x.2.2 then r+x.2.2 else loGo l r
def upF (r:Int):Int:=upGo rowsL r
def loF (r:Int):Int:=loGo rowsL r
def compE (l:List Rule):Int:=if 400<(headsF l).length then 5 else 0
def vmE (l:List Rule) (t:List Int):Int×Nat:=if (checkRun l t).1≠0 then checkRun l t else if compE l≠0 then (5,0) else ((runText l t).err,0)
def vmV (l:List Rule) (t:List Int):List Int:=if (vmE l t).1≠0 then [] else (runText l t).text
def passF (p:Pas) (l:List Int):List Int×Int:=
 if p.name=upperS then (l.map upF,0) else if p.name=lowerS then (l.map loF,0) else if p.name=removeS then ([],0) else if p.name=nullS then (l,0) else (vmV p.rules l,(vmE p.rules l).1)
def allP:Nat->List Pas->List Int->List Int×Int×Nat
 | _,[],l=>(l,0,0)
 | k,p::ps,l=>if (passF p l).2≠0 then ([],(passF p l).2,k) else allP (k+1) ps (passF p l).1
def wrongPas (p:Pas):Int:=if p.name=.empty then (wrongRules p.rules).1 else if !(passS.any fun x=>decide (p.name=x)) then 7 else if 0<p.rules.length then 8 else 0
def wrongPs:Nat->List Pas->Int×Nat
 | _,[]=>(0,0)
 | k,p::ps=>if wrongPas p≠0 then (wrongPas p,k) else wrongPs (k+1) ps
def wrongScript (s:Script):Int×Nat:=
 if s.filt=true/\wrongSet s.only≠0 then (wrongSet s.only,0) else if 60<s.passes.length then (5,0) else wrongPs 0 s.passes
def meant (s:Script) (x:Int):Bool:=!s.filt||has s.only x
def flushF (s:Script) (pc out:List Int):Sum (Int×Nat) (List Int):=
 if pc=[] then .inr out else if (allP 0 s.passes pc).2.1≠0 then .inl (allP 0 s.passes pc).2 else .inr (out++(allP 0 s.passes pc).1)
def lastF (s:Script) (out:List Int):List Int×Int×Nat:=if 4000<out.length then ([],4,s.passes.length) else (out,0,0)
def goS (s:Script):List Int->List Int->List Int->List Int×Int×Nat
 | [],pc,out=>match flushF s pc out with
  | .inl e=>([],e)
  | .inr o=>lastF s o
 | x::r,pc,out=>if meant s x=true then goS s r (pc++[x]) out else match flushF s pc out with
  | .inl e=>([],e)
  | .inr o=>goS s r [] (o++[x])
def goF (s:Script) (t:List Int):List Int×Int×Nat:=
 if (wrongScript s).1≠0 then ([],wrongScript s) else if wrongText t≠0 then ([],wrongText t,0) else goS s t [] []
theorem wrongPs_zero:∀ {ps:List Pas} {k:Nat},(wrongPs k ps).1=0->wrongPs k ps=(0,0)/\∀ p∈ps,wrongPas p=0
 | [],k,_=>⟨rfl,fun p hp=>by cases hp⟩
 | q::ps,k,h=>by
  unfold wrongPs at h ⊢;by_cases hq:wrongPas q≠0
  ·rw[if_pos hq] at h;exact absurd h hq
  ·rw[if_neg hq] at h ⊢;obtain⟨h1,h2⟩:=wrongPs_zero h;refine⟨h1,fun p hp=>?_⟩;rcases List.mem_cons.1 hp with rfl | hp
   ·exact Decidable.not_not.1 hq
   ·exact h2 p hp
theorem wrongScript_zero {s:Script} (h:(wrongScript s).1=0):wrongScript s=(0,0)/\s.passes.length<=60/\∀ p∈s.passes,wrongPas p=0:=by
 unfold wrongScript at h ⊢;by_cases h1:s.filt=true/\wrongSet s.only≠0
 ·rw[if_pos h1] at h;exact absurd h h1.2
 ·rw[if_neg h1] at h ⊢;by_cases h2:60<s.passes.length
  ·rw[if_pos h2] at h;simp at h
  ·rw[if_neg h2] at h ⊢;obtain⟨h3,h4⟩:=wrongPs_zero h;exact⟨h3,by omega,h4⟩
theorem passF_upper {p:Pas} {t:List Int} (h:p.name=upperS):passF p t=(t.map upF,0):=by unfold passF;rw[if_pos h]
theorem passF_lower {p:Pas} {t:List Int} (h:p.name=lowerS):passF p t=(t.map loF,0):=by unfold passF;rw[if_neg (by rw[h];decide),if_pos h]
theorem passF_remove {p:Pas} {t:List Int} (h:p.name=removeS):passF p t=([],0):=by unfold passF;rw[if_neg (by rw[h];decide),if_neg (by rw[h];decide),if_pos h]
theorem passF_null {p:Pas} {t:List Int} (h:p.name=nullS):passF p t=(t,0):=by unfold passF;rw[if_neg (by rw[h];decide),if_neg (by rw[h];decide),if_neg (by rw[h];decide),if_pos h]
theorem passF_rules {p:Pas} {t:List Int} (h1:p.name≠upperS) (h2:p.name≠lowerS) (h3:p.name≠removeS) (h4:p.name≠nullS):passF p t=(vmV p.rules t,(vmE p.rules t).1):=by unfold passF;rw[if_neg h1,if_neg h2,if_neg h3,if_neg h4]
end Go.Proofs.YthomjcjnalfipaaGreatDoor
