/- A part of the proofs of the Top laws. -/
import Derived.BigQuiet
import Derived.Deep.Cut
import Derived.Deep.CutRange
import Derived.Test.YthomjcjnalfipaaGreatDoorRows
import Derived.ProofKit
import Derived.OpenShut
import Derived.ChangeOld
import Derived.Deep.Fields
import Derived.Test.YthomjcjnalfipaaGreatDoorYB34
set_option linter.all false
set_option maxRecDepth 100000
set_option maxHeartbeats 4000000
open Go.Lib (hid)
namespace Go.Proofs.YthomjcjnalfipaaGreatDoor
open Go.RowKit
theorem goS_in {s:Script} {x:Int} {r pc out:List Int} (h:meant s x=true):goS s (x::r) pc out=goS s r (pc++[x]) out:=by rw[goS,if_pos h]
theorem goS_no {s:Script} {x:Int} {r pc out:List Int} (h:meant s x=false):goS s (x::r) pc out=match flushF s pc out with
  | .inl e=>([],e)
  | .inr o=>goS s r [] (o++[x]):=by rw[goS,if_neg (by simp[h])];cases flushF s pc out <;> rfl
theorem goS_end {s:Script} {pc out:List Int}:goS s [] pc out=match flushF s pc out with
  | .inl e=>([],e)
  | .inr o=>lastF s o:=rfl
theorem flush_nil {s:Script} {out:List Int}:flushF s [] out=.inr out:=rfl
theorem flush_err {f:Bool} {on:List Sp} {ps:List Pas} {pc out:List Int} (hp:pc≠[]) (h:(allP 0 ps pc).2.1≠0):flushF ⟨f,on,ps⟩ pc out=.inl (allP 0 ps pc).2:=by unfold flushF;rw[if_neg hp,if_pos h]
theorem flush_ok {f:Bool} {on:List Sp} {ps:List Pas} {pc out:List Int} (hp:pc≠[]) (h:(allP 0 ps pc).2.1=0):flushF ⟨f,on,ps⟩ pc out=.inr (out++(allP 0 ps pc).1):=by unfold flushF;rw[if_neg hp,if_neg (by simp[h])]
def GoPost (w:World) (T:List Int×Int×Nat) (e:Ending) (w':World):Prop:=
 Ext w w'/\if T.2.1≠0 then e=.returned (.tuple #[.slice none 0 0,.agg #[.int .i64 T.2.1,.int .i64 T.2.2]])
 else ∃ A n c,e=.returned (.tuple #[.slice A n c,.agg #[.int .i64 0,.int .i64 0]])/\SlR rRune 1 (fun b=>w.heap.size<=b) w' A n c T.1
section
variable (f : Bool) (A1 : Option Addr) (n1 c1 : Nat) (A2 : Option Addr) (n2 c2 : Nat) (on : List Sp) (ps : List Pas) (X : Option Addr) (m d : Nat) (t : List Int) (w : World)
theorem go_wrong (h1:Spans w A1 n1 c1 on) (h2:Pss top w A2 n2 c2 ps) (ht:Runes w X m d t) (hw:(wrongScript ⟨f,on,ps⟩).1≠0) :
  Calls Tryz.prog 10 #[.agg #[.bool f,.slice A1 n1 c1,.slice A2 n2 c2],.slice X m d] w (GoPost w (goF ⟨f,on,ps⟩ t)):=by
 have e1:Ext w ((w.alloc (.cells #[.bool f,.slice A1 n1 c1,.slice A2 n2 c2] 26)).alloc (.cells #[.int .i64 0,.int .i64 0] 34)):=((Ext.refl w).alloc _).alloc _;have k0:((w.alloc (.cells #[.bool f,.slice A1 n1 c1,.slice A2 n2 c2] 26)).alloc (.cells #[.int .i64 0,.int .i64 0] 34)).cell? ⟨w.heap.size,0,none⟩=some (.bool f):=by simp
 have k1:((w.alloc (.cells #[.bool f,.slice A1 n1 c1,.slice A2 n2 c2] 26)).alloc (.cells #[.int .i64 0,.int .i64 0] 34)).cell? ⟨w.heap.size,1,none⟩=some (.slice A1 n1 c1):=by simp
 have k2:((w.alloc (.cells #[.bool f,.slice A1 n1 c1,.slice A2 n2 c2] 26)).alloc (.cells #[.int .i64 0,.int .i64 0] 34)).cell? ⟨w.heap.size,2,none⟩=some (.slice A2 n2 c2):=by simp
 have k3:((w.alloc (.cells #[.bool f,.slice A1 n1 c1,.slice A2 n2 c2] 26)).alloc (.cells #[.int .i64 0,.int .i64 0] 34)).cell? ⟨w.heap.size+1,0,none⟩=some (.int .i64 0):=by simp
 have k4:((w.alloc (.cells #[.bool f,.slice A1 n1 c1,.slice A2 n2 c2] 26)).alloc (.cells #[.int .i64 0,.int .i64 0] 34)).cell? ⟨w.heap.size+1,1,none⟩=some (.int .i64 0):=by simp
 have wb:=Wr.new (w.alloc (.cells #[.bool f,.slice A1 n1 c1,.slice A2 n2 c2] 26)) #[.int .i64 0,.int .i64 0] 34;rw[World.size_alloc] at wb;have HS:=hid (chainWrong_any f A1 n1 c1 A2 n2 c2 on ps _ (h1.ext e1) (h2.ext (keep_pas top) e1));have HT:=hid (fun W (e:Ext w W)=>Text_any X m d t W (ht.ext e));have hs2:w.heap.size+2<=((w.alloc (.cells #[.bool f,.slice A1 n1 c1,.slice A2 n2 c2] 26)).alloc (.cells #[.int .i64 0,.int .i64 0] 34)).heap.size:=by simp
 have HF:=hid (show goF ⟨f,on,ps⟩ t=([],wrongScript ⟨f,on,ps⟩) by unfold goF;rw[if_pos hw]);have HN:=hid hw;have gn:((wrongScript ⟨f,on,ps⟩).1 != 0)=true:=by simpa using hw
 clear hw h1 h2 ht;rw[HF.out];generalize wrongScript ⟨f,on,ps⟩=T at *;obtain⟨q1,q2⟩:=T;dsimp only at gn;go_enter Tryz.func10,Tryz.ntmps10;go_upto_region 1 with fail;generalize (w.alloc (.cells #[.bool f,.slice A1 n1 c1,.slice A2 n2 c2] 26)).alloc (.cells #[.int .i64 0,.int .i64 0] 34)=w1 at *;go_wp2_with (go_at_call 24;refine HS.out.mono ?_;rintro e w2 ⟨rfl,x2⟩;have X2:=x2.alloc (.cells #[.int .i64 q1,.int .i64 q2] 34);have yy3:=X2.cell k3;have yy4:=X2.cell k4;have ub:=(wb.ext X2).2;have un:=wb.lt X2);go_region;go_wp2;refine bodyPost_ret (v:=.tuple #[.slice none 0 0,.agg #[.int .i64 q1,.int .i64 q2]]) (by simp[results,Tryz.results10,go_sem,yy3,yy4,un]) rfl ?_;refine⟨Ext.drew ?_,by rw[if_pos HN.out]⟩
 repeat (first | exact e1.trans X2 | refine ext_set ?_ (by omega) _ _)
theorem go_text (h1:Spans w A1 n1 c1 on) (h2:Pss top w A2 n2 c2 ps) (ht:Runes w X m d t) (hw:(wrongScript ⟨f,on,ps⟩).1=0) (hx:wrongText t≠0) :
  Calls Tryz.prog 10 #[.agg #[.bool f,.slice A1 n1 c1,.slice A2 n2 c2],.slice X m d] w (GoPost w (goF ⟨f,on,ps⟩ t)):=by
 have e1:Ext w ((w.alloc (.cells #[.bool f,.slice A1 n1 c1,.slice A2 n2 c2] 26)).alloc (.cells #[.int .i64 0,.int .i64 0] 34)):=((Ext.refl w).alloc _).alloc _;have k0:((w.alloc (.cells #[.bool f,.slice A1 n1 c1,.slice A2 n2 c2] 26)).alloc (.cells #[.int .i64 0,.int .i64 0] 34)).cell? ⟨w.heap.size,0,none⟩=some (.bool f):=by simp
 have k1:((w.alloc (.cells #[.bool f,.slice A1 n1 c1,.slice A2 n2 c2] 26)).alloc (.cells #[.int .i64 0,.int .i64 0] 34)).cell? ⟨w.heap.size,1,none⟩=some (.slice A1 n1 c1):=by simp
 have k2:((w.alloc (.cells #[.bool f,.slice A1 n1 c1,.slice A2 n2 c2] 26)).alloc (.cells #[.int .i64 0,.int .i64 0] 34)).cell? ⟨w.heap.size,2,none⟩=some (.slice A2 n2 c2):=by simp
 have k3:((w.alloc (.cells #[.bool f,.slice A1 n1 c1,.slice A2 n2 c2] 26)).alloc (.cells #[.int .i64 0,.int .i64 0] 34)).cell? ⟨w.heap.size+1,0,none⟩=some (.int .i64 0):=by simp
 have k4:((w.alloc (.cells #[.bool f,.slice A1 n1 c1,.slice A2 n2 c2] 26)).alloc (.cells #[.int .i64 0,.int .i64 0] 34)).cell? ⟨w.heap.size+1,1,none⟩=some (.int .i64 0):=by simp
 have wb:=Wr.new (w.alloc (.cells #[.bool f,.slice A1 n1 c1,.slice A2 n2 c2] 26)) #[.int .i64 0,.int .i64 0] 34;rw[World.size_alloc] at wb;have HS:=hid (chainWrong_any f A1 n1 c1 A2 n2 c2 on ps _ (h1.ext e1) (h2.ext (keep_pas top) e1));have HT:=hid (fun W (e:Ext w W)=>Text_any X m d t W (ht.ext e));have hs2:w.heap.size+2<=((w.alloc (.cells #[.bool f,.slice A1 n1 c1,.slice A2 n2 c2] 26)).alloc (.cells #[.int .i64 0,.int .i64 0] 34)).heap.size:=by simp
 have HF:=hid (show goF ⟨f,on,ps⟩ t=([],wrongText t,0) by unfold goF;rw[if_neg (by simp[hw]),if_pos hx]);have HN:=hid hx;have gn:(wrongText t != 0)=true:=by simpa using hx
 rw[(wrongScript_zero hw).1] at HS;clear hw hx h1 h2 ht;rw[HF.out];generalize wrongText t=q1 at *;go_enter Tryz.func10,Tryz.ntmps10;go_upto_region 1 with fail;generalize (w.alloc (.cells #[.bool f,.slice A1 n1 c1,.slice A2 n2 c2] 26)).alloc (.cells #[.int .i64 0,.int .i64 0] 34)=w1 at *
 go_wp2_with (first
  | (go_at_call 24;refine HS.out.mono ?_;rintro e w2 ⟨rfl,x2⟩;have X2:=x2.alloc (.cells #[.int .i64 0,.int .i64 0] 34))
  | (go_at_call 25;refine (HT.out _ (e1.trans X2)).mono ?_;rintro e w3 ⟨rfl,x3⟩;have X3:=X2.trans x3;have yy3:=X3.cell k3;have yy4:=X3.cell k4;have ub:=(wb.ext X3).2;have un:=wb.lt X3))
 refine bodyPost_ret (v:=.tuple #[.slice none 0 0,.agg #[.int .i64 q1,.int .i64 0]]) (by simp[results,Tryz.results10,go_sem,yy3,yy4,un]) rfl ?_;refine⟨?_,by rw[if_pos HN.out];rfl⟩
 repeat (first | exact e1.trans X3 | refine ext_set ?_ (by omega) _ _)
end
section
variable (f : Bool) (A1 : Option Addr) (n1 c1 : Nat) (A2 : Option Addr) (n2 c2 : Nat) (on : List Sp) (ps : List Pas) (X : Option Addr) (m d : Nat) (t : List Int) (w : World)
theorem go_goes (h1:Spans w A1 n1 c1 on) (h2:Pss top w A2 n2 c2 ps) (ht:Runes w X m d t) (hw:(wrongScript ⟨f,on,ps⟩).1=0) (hx:wrongText t=0) :
  Calls Tryz.prog 10 #[.agg #[.bool f,.slice A1 n1 c1,.slice A2 n2 c2],.slice X m d] w (GoPost w (goF ⟨f,on,ps⟩ t)):=by
 have e1:Ext w ((w.alloc (.cells #[.bool f,.slice A1 n1 c1,.slice A2 n2 c2] 26)).alloc (.cells #[.int .i64 0,.int .i64 0] 34)):=((Ext.refl w).alloc _).alloc _;have k0:((w.alloc (.cells #[.bool f,.slice A1 n1 c1,.slice A2 n2 c2] 26)).alloc (.cells #[.int .i64 0,.int .i64 0] 34)).cell? ⟨w.heap.size,0,none⟩=some (.bool f):=by simp
 have k1:((w.alloc (.cells #[.bool f,.slice A1 n1 c1,.slice A2 n2 c2] 26)).alloc (.cells #[.int .i64 0,.int .i64 0] 34)).cell? ⟨w.heap.size,1,none⟩=some (.slice A1 n1 c1):=by simp
 have k2:((w.alloc (.cells #[.bool f,.slice A1 n1 c1,.slice A2 n2 c2] 26)).alloc (.cells #[.int .i64 0,.int .i64 0] 34)).cell? ⟨w.heap.size,2,none⟩=some (.slice A2 n2 c2):=by simp
 have k3:((w.alloc (.cells #[.bool f,.slice A1 n1 c1,.slice A2 n2 c2] 26)).alloc (.cells #[.int .i64 0,.int .i64 0] 34)).cell? ⟨w.heap.size+1,0,none⟩=some (.int .i64 0):=by simp
 have k4:((w.alloc (.cells #[.bool f,.slice A1 n1 c1,.slice A2 n2 c2] 26)).alloc (.cells #[.int .i64 0,.int .i64 0] 34)).cell? ⟨w.heap.size+1,1,none⟩=some (.int .i64 0):=by simp
 have wb:=Wr.new (w.alloc (.cells #[.bool f,.slice A1 n1 c1,.slice A2 n2 c2] 26)) #[.int .i64 0,.int .i64 0] 34;rw[World.size_alloc] at wb;have HS:=hid (chainWrong_any f A1 n1 c1 A2 n2 c2 on ps _ (h1.ext e1) (h2.ext (keep_pas top) e1));have HT:=hid (fun W (e:Ext w W)=>Text_any X m d t W (ht.ext e));have hs2:w.heap.size+2<=((w.alloc (.cells #[.bool f,.slice A1 n1 c1,.slice A2 n2 c2] 26)).alloc (.cells #[.int .i64 0,.int .i64 0] 34)).heap.size:=by simp
 have HWS:=hid (show goF ⟨f,on,ps⟩ t=goS ⟨f,on,ps⟩ t [] [] by unfold goF;rw[if_neg (by simp[hw]),if_neg (by simp[hx])]);obtain⟨hw0,hw60,_⟩:=wrongScript_zero hw;have hn60:n2<=60:=by rw[<- h2.len];exact hw60
 have HON:Hid (f=true->wrongSet on=0):=hid fun hf=>Decidable.byContradiction fun hh=>by unfold wrongScript at hw;rw[if_pos ⟨hf,hh⟩] at hw;exact hh hw
 have hm4:m<=4000:=by rw[<- ht.len];exact (text_of hx).1
 have HX:=hid hx;have hmd:=ht.cap;rw[hw0] at HS;have h1h:=hid h1;have h2h:=hid h2;have ht1:=hid (ht.ext e1);clear hw hx h1 h2 ht hw0 hw60;go_enter Tryz.func10,Tryz.ntmps10;go_upto_region 1 with fail;generalize (w.alloc (.cells #[.bool f,.slice A1 n1 c1,.slice A2 n2 c2] 26)).alloc (.cells #[.int .i64 0,.int .i64 0] 34)=w1 at *
 go_wp2_with (first
  | (go_at_call 24;refine HS.out.mono ?_;rintro e w2 ⟨rfl,x2⟩;have X2:=x2.alloc (.cells #[.int .i64 0,.int .i64 0] 34))
  | (go_at_call 25;refine (HT.out _ (e1.trans X2)).mono ?_;rintro e w3 ⟨rfl,x3⟩;rw[HX.out];have X3:=X2.trans x3))
 have ht2:=ht1;go_loopw [8,9] (fun vo va wr=>∃ (a:Nat) (out:List Int),va=.int .i64 a/\a<=m/\OwnR rRune 21 1 w1.heap.size wr vo out/\out.length<=4001*a/\Hid (goS ⟨f,on,ps⟩ t [] []=goS ⟨f,on,ps⟩ (t.drop a) [] out)/\Ext w1 wr) (fun _ va _=>m-(intOf va).toNat);case atStart=>exact⟨0,[],rfl,by omega,OwnR.nil _ _ _ _ _,by simp,hid rfl,X3⟩
 case round=>
  obtain⟨a,out,rfl,ham,o,hol,HG0,hx⟩:=hrel;have HOL:=hid hol;have HO:=hid o;clear hol o;by_cases hlt:a<m
  ·have hltd:decide ((a:Int)<(m:Int))=true:=decide_eq_true (by omega);go_upto_region 11 with fail;have HXO:=hid hx;clear hx;generalize wr=wo at *;go_loopw [10] (fun ve wr=>∃ e:Nat,ve=.int .i64 e/\a<=e/\e<=m/\Hid (goS ⟨f,on,ps⟩ t [] []=goS ⟨f,on,ps⟩ (t.drop e) ((t.take e).drop a) out)/\Ext wo wr) (fun ve _=>m-(intOf ve).toNat);case atStart=>exact⟨a,rfl,Nat.le_refl _,ham,hid (by rw[HG0.out];congr 1;rw[List.drop_of_length_le (by simp;omega)]),Ext.refl _⟩
   case round=>
    obtain⟨e,rfl,hae,hem,HG,hx⟩:=hrel;have HXW:=hid (HXO.out.trans hx);have HXI:=hid hx;clear hx;by_cases hlt2:e<m
    ·have hltd2:decide ((e:Int)<(m:Int))=true:=decide_eq_true (by omega);have hlti2:(e:Int)<(m:Int):=by omega
     obtain⟨x,hxx⟩:=ht2.out.idx hlt2;obtain⟨bx,ox,hX,⟨hbl0,_⟩,hc1x,hx32a,hx32b⟩:=ht2.out.rune hxx;have hcx0:=HXW.out.cell hc1x;have HC1:=hid hc1x;have hbn:bx≠wr.heap.size/\bx<wr.heap.size:=by have:=HXW.out.size;omega
     clear hc1x;subst hX;have hx32:i32 x:=⟨hx32a,hx32b⟩
     have hed:=drop_cons hxx;have HTE:=hid (take_snoc hxx);have hlte:(t.take e).length=e:=by rw[List.length_take,ht2.out.len];omega
     have g0:=fun pF:Far wr=>(HXW.out.trans pF.ext).cell k0;have g1:=fun pF:Far wr=>(HXW.out.trans pF.ext).cell k1;have gx:=fun pF:Far wr=>pF.ext.cell hcx0;have HXX:=hid hxx;clear hxx;by_cases hm:meant ⟨f,on,ps⟩ x=true
     ·have HG2:=hid (show goS ⟨f,on,ps⟩ t [] []=goS ⟨f,on,ps⟩ (t.drop (e+1)) ((t.take (e+1)).drop a) out by
       rw[HG.out,hed,goS_in hm,HTE.out,List.drop_append_of_le_length (by omega)])
      have HM:=hid hm;clear hm hed;cases f
      case' false=>
       go_wp2;refine wp_region_far (by kernel_rfl) (by kernel_rfl) ?_
       iterate 18 (go_big_quiet_step (fail))
      case' true=>
       have hh:has on x=true:=by have:=HM.out;unfold meant at this;simpa using this
       have HH:=hid (fun pF:Far wr=>(setsHas_any A1 n1 c1 on x pF.out (h1h.out.ext (e1.trans (HXW.out.trans pF.ext))) (HON.out rfl)).mono fun en w' h=>(⟨by rw[h.1,hh],h.2⟩:en=.returned (.bool true)/\Ext pF.out w'));clear hh;go_wp2;refine wp_region_far (by kernel_rfl) (by kernel_rfl) ?_
       iterate 18 (go_big_quiet_step (first | (go_at_call 14;refine Calls.far_of (HH.out _))))
      all_goals
       refine wpQuiet_nil ?_;intro wq hw';obtain⟨pf,hw2⟩:=hw';have DQ:Ext wr wq:=by rw[hw2];exact pf.ext
       clear hw2 pf;go_wp2;go_roundw;case rel=>exact⟨e+1,by go_num,by omega,by omega,HG2,HXI.out.trans DQ⟩
       case measure=>simp[intOf];omega
     ·have hnm:meant ⟨f,on,ps⟩ x=false:=by simpa using hm
      obtain rfl:f=true:=by
       cases f
       ·exact absurd rfl hm
       ·rfl
      have hh:has on x=false:=by have:=hnm;unfold meant at this;simpa using this
      have HH:=hid (fun pF:Far wr=>(setsHas_any A1 n1 c1 on x pF.out (h1h.out.ext (e1.trans (HXW.out.trans pF.ext))) (HON.out rfl)).mono fun en w' h=>(⟨by rw[h.1,hh],h.2⟩:en=.returned (.bool false)/\Ext pF.out w'));clear hh hm;go_wp2;refine wp_region_far (by kernel_rfl) (by kernel_rfl) ?_
      iterate 18 (go_big_quiet_step (first | (go_at_call 14;refine Calls.far_of (HH.out _))))
      refine wpQuiet_nil ?_;intro wq hw';obtain⟨pf,hw2⟩:=hw';have DQ:Ext wr wq:=by rw[hw2];exact pf.ext
      clear hw2 pf g0 g1 gx;have XQ:=hid (HXW.out.trans DQ);have OQ:=hid (HO.out.ext (keep_rune bot) (HXI.out.trans DQ));have hcx:=DQ.cell hcx0;clear DQ hcx0 HH;by_cases hea':a<e
      ·have hnil:=hed;have hea:a<e:=hea';have head:decide ((a:Int)<(e:Int))=true:=decide_eq_true (by omega);have hsl:=fun W=>run_cut_lh T_rune (some ⟨bx,ox,none⟩) m d (a:Int) (e:Int) a e rfl rfl (by omega) (by omega) W;have HPC:=hid (((ht2.out.take (hi:=e) (by omega)).drop (lo:=a) (by omega)));obtain⟨pc,hpc⟩:∃ z,z=(t.take e).drop a:=⟨_,rfl⟩
       rw[<- hpc] at HPC HG;have hpl:pc.length=e-a:=by rw[hpc,List.length_drop,List.length_take,ht2.out.len];omega
       have hpn:pc≠[]:=fun h=>by rw[h] at hpl;simp at hpl;omega
       have HAL:=hid (allP_len ps 0 (t:=pc) (by omega));have HCl:=hid (Clone_rune one_rune (keep_rune bot) _ _ _ pc wq (HPC.out.ext (keep_rune top) XQ.out) (by omega) (fun _ _ h=>h));have hpc4:pc.length<=4000:=by omega
       clear hpc;by_cases herr:(allP 0 ps pc).2.1≠0
       ·have HF:Hid (goS ⟨true,on,ps⟩ t [] []=([],(allP 0 ps pc).2)):=hid (by rw[HG.out,hed,goS_no hnm,flush_err hpn herr]);have HER:=hid herr;have gerr:((allP 0 ps pc).2.1 != 0)=true:=by simpa using herr
        clear herr
        go_wp2_with (first
         | (go_at_call 27;refine HCl.out.mono ?_;rintro e9 w5 ⟨v,rfl,ov,x5⟩;obtain⟨AC,cC,hv,hsC⟩:=ov.top;generalize pc.length=N at hv hsC hpc4;subst hv;have X5:=hid (XQ.out.trans x5);have HAll:=hid (chainAll_any w.heap.size A2 n2 c2 ps AC N cC pc w5 (X5.out.cell k2) (h2h.out.ext (keep_pas top) (e1.trans X5.out)) hsC hpc4 hn60);clear ov hsC x5)
         | (go_at_call 26;refine HAll.out.mono ?_;rintro e9 w6 ⟨x6,he⟩;rw[if_pos HER.out] at he;subst he;have X6:=X5.out.trans x6;have X7:=X6.alloc (.cells #[.int .i64 (allP 0 ps pc).2.1,.int .i64 (allP 0 ps pc).2.2] 34);have yy3:=X7.cell k3;have yy4:=X7.cell k4;have ub:=(wb.ext X7).2;have un:=wb.lt X7))
        go_region;go_wp2;refine bodyPost_ret (v:=.tuple #[.slice none 0 0,.agg #[.int .i64 (allP 0 ps pc).2.1,.int .i64 (allP 0 ps pc).2.2]]) (by simp[results,Tryz.results10,go_sem,yy3,yy4,un]) rfl ?_;refine⟨Ext.drew ?_,?_⟩
        ·repeat (first | exact e1.trans X7 | refine ext_set ?_ (by omega) _ _)
        ·rw[HWS.out,HF.out,if_pos HER.out]
       ·have her0:(allP 0 ps pc).2.1=0:=Decidable.not_not.1 herr;have HER:=hid herr;have hol:=HOL.out;have HF:Hid (goS ⟨true,on,ps⟩ t [] []=goS ⟨true,on,ps⟩ (t.drop (e+1)) [] ((out++(allP 0 ps pc).1)++[x])):=hid (by rw[HG.out,hed,goS_no hnm,flush_ok hpn her0]);obtain⟨l',hl'⟩:∃ z,z=(allP 0 ps pc).1:=⟨_,rfl⟩
        rw[<- hl'] at HF HAL;have HL':=hid hl';clear herr her0 hl'
        go_wp2_with (first
         | (go_at_call 27;refine HCl.out.mono ?_;rintro e9 w5 ⟨v,rfl,ov,x5⟩;obtain⟨AC,cC,hv,hsC⟩:=ov.top;generalize pc.length=N at hv hsC hpc4;subst hv;have X5:=hid (XQ.out.trans x5);have HAll:=hid (chainAll_any w.heap.size A2 n2 c2 ps AC N cC pc w5 (X5.out.cell k2) (h2h.out.ext (keep_pas top) (e1.trans X5.out)) hsC hpc4 hn60);have O5:=hid (OQ.out.ext (keep_rune bot) x5);clear ov hsC x5)
         | (go_at_call 26;refine HAll.out.mono ?_;rintro e9 w6 ⟨x6,he⟩;rw[if_neg HER.out,<- HL'.out] at he;obtain⟨A7,n7,c7,rfl,hs7⟩:=he;have f7:=(Ext.refl w6).alloc (.cells #[.int .i64 0,.int .i64 0] 34);have S7:=hid (hs7.ext f7);have O7:=hid (O5.out.ext (keep_rune bot) (x6.trans f7));have X7:=hid (X5.out.trans (x6.trans f7));have hn7:n7<=4000:=(by rw[<- hs7.len];exact HAL.out);clear hs7 f7 x6)
         | (at_builtin;refine wpList_app T_rune rfl (.tmp 66) (.tmp 67) rfl rfl O7.out rfl S7.out (fun _ _ h=>h) one_rune (keep_rune bot) (bot_no _) (by have:=HOL.out;omega) (by unfold maxLen;have:=HOL.out;omega) X7.out.size ?_;intro v8 w8 o8 g8 hat8;have X8:=hid (X7.out.app g8 O7.out);have O8:=hid o8;clear o8 g8 hat8;have hc8:=X8.out.cell HC1.out;have hlen8:Hid ((out++l').length<=4001*a+4000):=(hid (by have:=HOL.out;have:=HAL.out;simp;omega));have f9:=(Ext.refl w8).alloc (.cells #[.int .i32 x] 21);have S9:=hid (one_new32 w8 x 21 hx32);have O9:=hid (O8.out.ext (keep_rune bot) f9);have X9:=hid (X8.out.trans f9);clear f9)
         | (at_builtin;refine wpList_app T_rune rfl (.tmp 73) (.tmp 78) rfl rfl O9.out rfl S9.out (fun _ _ h=>h) one_rune (keep_rune bot) (bot_no _) (by have:=hlen8.out;omega) (by unfold maxLen;have:=hlen8.out;omega) X9.out.size ?_;intro v10 w10 o10 g10 hat10;have X10:=hid (X9.out.app g10 O9.out);have O10:=hid o10;clear o10 g10 hat10))
        go_roundw;case rel=>exact⟨e+1,(out++l')++[x],by first | rfl | go_num,by omega,O10.out,by have:=hlen8.out;simp at this ⊢;omega,HF,X10.out⟩
        case measure=>simp[intOf];omega
      ·have head:decide ((a:Int)<(e:Int))=false:=decide_eq_false (by omega);have hpe:(t.take e).drop a=[]:=List.drop_of_length_le (by omega);have HF:Hid (goS ⟨true,on,ps⟩ t [] []=goS ⟨true,on,ps⟩ (t.drop (e+1)) [] (out++[x])):=hid (by rw[HG.out,hed,goS_no hnm,hpe,flush_nil]);have f9:=(Ext.refl wq).alloc (.cells #[.int .i32 x] 21);have S9:=hid (one_new32 wq x 21 hx32);have O9:=hid (OQ.out.ext (keep_rune bot) f9);have X9:=hid (XQ.out.trans f9);clear hpe f9;go_wp2_with (at_builtin;refine wpList_app T_rune rfl (.tmp 73) (.tmp 78) rfl rfl O9.out rfl S9.out (fun _ _ h=>h) one_rune (keep_rune bot) (bot_no _) (by have:=HOL.out;omega) (by unfold maxLen;have:=HOL.out;omega) X9.out.size ?_;intro v10 w10 o10 g10 hat10;have X10:=hid (X9.out.app g10 O9.out);have O10:=hid o10;clear o10 g10 hat10);go_roundw;case rel=>exact⟨e+1,out++[x],by first | rfl | go_num,by omega,O10.out,by have:=HOL.out;simp;omega,HF,X10.out⟩
       case measure=>simp[intOf];omega
    ·have hltd2:decide ((e:Int)<(m:Int))=false:=decide_eq_false (by omega);have hed:t.drop e=[]:=List.drop_of_length_le (by rw[ht2.out.len];omega);have hem':e=m:=by omega
     have hea':a<e:=by omega
     go_wp2;refine wp_region_far (by kernel_rfl) (by kernel_rfl) ?_
     iterate 18 (go_big_quiet_step (fail))
     refine wpQuiet_nil ?_;intro wq hw';obtain⟨pf,hw2⟩:=hw';have DQ:Ext wr wq:=by rw[hw2];exact pf.ext
     clear hw2 pf;have XQ:=hid (HXW.out.trans DQ);have OQ:=hid (HO.out.ext (keep_rune bot) (HXI.out.trans DQ));have HEM:=hid hem';clear DQ hem';have hea:a<e:=hea';have head:decide ((a:Int)<(e:Int))=true:=decide_eq_true (by omega);have hsl:=fun W=>run_cut_lh T_rune X m d (a:Int) (e:Int) a e rfl rfl (by omega) (by omega) W;have HPC:=hid (((ht2.out.take (hi:=e) (by omega)).drop (lo:=a) (by omega)));obtain⟨pc,hpc⟩:∃ z,z=(t.take e).drop a:=⟨_,rfl⟩
     rw[<- hpc] at HPC HG;have hpl:pc.length=e-a:=by rw[hpc,List.length_drop,List.length_take,ht2.out.len];omega
     have hpn:pc≠[]:=fun h=>by rw[h] at hpl;simp at hpl;omega
     have HAL:=hid (allP_len ps 0 (t:=pc) (by omega));have HCl:=hid (Clone_rune one_rune (keep_rune bot) _ _ _ pc wq (HPC.out.ext (keep_rune top) XQ.out) (by omega) (fun _ _ h=>h));have hpc4:pc.length<=4000:=by omega
     clear hpc;by_cases herr:(allP 0 ps pc).2.1≠0
     ·have HF:Hid (goS ⟨f,on,ps⟩ t [] []=([],(allP 0 ps pc).2)):=hid (by rw[HG.out,hed,goS_end,flush_err hpn herr]);have HER:=hid herr;have gerr:((allP 0 ps pc).2.1 != 0)=true:=by simpa using herr
      clear herr
      go_wp2_with (first
       | (go_at_call 27;refine HCl.out.mono ?_;rintro e9 w5 ⟨v,rfl,ov,x5⟩;obtain⟨AC,cC,hv,hsC⟩:=ov.top;generalize pc.length=N at hv hsC hpc4;subst hv;have X5:=hid (XQ.out.trans x5);have HAll:=hid (chainAll_any w.heap.size A2 n2 c2 ps AC N cC pc w5 (X5.out.cell k2) (h2h.out.ext (keep_pas top) (e1.trans X5.out)) hsC hpc4 hn60);clear ov hsC x5)
       | (go_at_call 26;refine HAll.out.mono ?_;rintro e9 w6 ⟨x6,he⟩;rw[if_pos HER.out] at he;subst he;have X6:=X5.out.trans x6;have X7:=X6.alloc (.cells #[.int .i64 (allP 0 ps pc).2.1,.int .i64 (allP 0 ps pc).2.2] 34);have yy3:=X7.cell k3;have yy4:=X7.cell k4;have ub:=(wb.ext X7).2;have un:=wb.lt X7))
      go_region;go_wp2;refine bodyPost_ret (v:=.tuple #[.slice none 0 0,.agg #[.int .i64 (allP 0 ps pc).2.1,.int .i64 (allP 0 ps pc).2.2]]) (by simp[results,Tryz.results10,go_sem,yy3,yy4,un]) rfl ?_;refine⟨Ext.drew ?_,?_⟩
      ·repeat (first | exact e1.trans X7 | refine ext_set ?_ (by omega) _ _)
      ·rw[HWS.out,HF.out,if_pos HER.out]
     ·have her0:(allP 0 ps pc).2.1=0:=Decidable.not_not.1 herr;have HER:=hid herr;have hol:=HOL.out;have HF:Hid (goS ⟨f,on,ps⟩ t [] []=goS ⟨f,on,ps⟩ (t.drop m) [] (out++(allP 0 ps pc).1)):=hid (by rw[HG.out,hed,goS_end,flush_ok hpn her0,List.drop_of_length_le (by rw[ht2.out.len];omega),goS_end,flush_nil]);obtain⟨l',hl'⟩:∃ z,z=(allP 0 ps pc).1:=⟨_,rfl⟩
      rw[<- hl'] at HF HAL;have HL':=hid hl';clear herr her0 hl'
      go_wp2_with (first
       | (go_at_call 27;refine HCl.out.mono ?_;rintro e9 w5 ⟨v,rfl,ov,x5⟩;obtain⟨AC,cC,hv,hsC⟩:=ov.top;generalize pc.length=N at hv hsC hpc4;subst hv;have X5:=hid (XQ.out.trans x5);have HAll:=hid (chainAll_any w.heap.size A2 n2 c2 ps AC N cC pc w5 (X5.out.cell k2) (h2h.out.ext (keep_pas top) (e1.trans X5.out)) hsC hpc4 hn60);have O5:=hid (OQ.out.ext (keep_rune bot) x5);clear ov hsC x5)
       | (go_at_call 26;refine HAll.out.mono ?_;rintro e9 w6 ⟨x6,he⟩;rw[if_neg HER.out,<- HL'.out] at he;obtain⟨A7,n7,c7,rfl,hs7⟩:=he;have f7:=(Ext.refl w6).alloc (.cells #[.int .i64 0,.int .i64 0] 34);have S7:=hid (hs7.ext f7);have O7:=hid (O5.out.ext (keep_rune bot) (x6.trans f7));have X7:=hid (X5.out.trans (x6.trans f7));have hn7:n7<=4000:=(by rw[<- hs7.len];exact HAL.out);clear hs7 f7 x6)
       | (at_builtin;refine wpList_app T_rune rfl (.tmp 66) (.tmp 67) rfl rfl O7.out rfl S7.out (fun _ _ h=>h) one_rune (keep_rune bot) (bot_no _) (by have:=HOL.out;omega) (by unfold maxLen;have:=HOL.out;omega) X7.out.size ?_;intro v8 w8 o8 g8 hat8;have X8:=hid (X7.out.app g8 O7.out);have O8:=hid o8;clear o8 g8 hat8;skip))
      go_roundw;case rel=>exact⟨m,out++l',by rw[HEM.out],Nat.le_refl _,O8.out,by have:=HAL.out;simp;omega,HF,X8.out⟩
      case measure=>simp[intOf];omega
  ·have ham':a=m:=by omega
   have hltd:decide ((a:Int)<(m:Int))=false:=decide_eq_false (by omega);have HE:=hid (show goS ⟨f,on,ps⟩ t [] []=lastF ⟨f,on,ps⟩ out by rw[HG0.out,List.drop_of_length_le (by rw[ht2.out.len];omega),goS_end,flush_nil]);have hl2:=hid h2h.out.len;obtain⟨AO,cO,hv,hsO⟩:=HO.out.sl;obtain⟨N,hN⟩:∃ z,out.length=z:=⟨_,rfl⟩
   rw[hN] at hv hsO;subst hv;have HSO:=hid hsO;have HN:=hid hN;have yy2:=hx.cell k2;have yy3:=hx.cell k3;have yy4:=hx.cell k4;have ub:=(wb.ext hx).2;have un:=wb.lt hx;clear hsO hN ham';by_cases hbig:4000<N
   ·have hbd:decide ((4000:Int)<(N:Int))=true:=decide_eq_true (by omega);have HF:=hid (show goS ⟨f,on,ps⟩ t [] []=([],4,n2) by rw[HE.out];unfold lastF;rw[if_pos (by rw[HN.out];exact hbig),<- hl2.out]);go_wp2;go_region;go_wp2;refine bodyPost_ret (v:=.tuple #[.slice none 0 0,.agg #[.int .i64 4,.int .i64 n2]]) (by simp[results,Tryz.results10,go_sem,yy3,yy4,un]) rfl ?_;rw[HWS.out,HF.out];refine⟨Ext.drew ?_,by rw[if_pos (by simp)]⟩
    repeat (first | exact e1.trans hx | refine ext_set ?_ (by omega) _ _)
   ·have hbd:decide ((4000:Int)<(N:Int))=false:=decide_eq_false (by omega);have HF:=hid (show goS ⟨f,on,ps⟩ t [] []=(out,0,0) by rw[HE.out];unfold lastF;rw[if_neg (by rw[HN.out];exact hbig)]);go_wp2;refine bodyPost_ret (v:=.tuple #[.slice AO N cO,.agg #[.int .i64 0,.int .i64 0]]) (by simp[results,Tryz.results10,go_sem,yy3,yy4,un]) rfl ?_;rw[HWS.out,HF.out];refine⟨?_,?_⟩
    ·repeat (first | exact e1.trans hx | refine ext_set ?_ (by omega) _ _)
    ·rw[if_neg (by simp)];refine⟨AO,N,cO,rfl,(HSO.out.keep (keep_rune _) (fun b hb hl=>?_)).mono (fun _ _ h=>h) (fun b hb=>by omega)⟩;have q2:b≠w.heap.size+1:=by omega
     simp only[heap_setB q2]
end
theorem arrow_any (B:Nat) (A:Option Addr) (n c:Nat) (L:List Int) (k:Nat) (w:World) (h:CurAt w B A n c L k) :
  Calls Tryz.prog 81 #[.pointer (some ⟨B,0,none⟩)] w fun e w'=>PRet w B (arrowF L k) (fun d _ v=>v=.int .i64 d) e w':=by
 have H:=hid h;have HL:=hid h.row.len;have hnb:=h.nb;have hle:=h.le;have S0:=hid (Cr.refl h);have k1:=S0.out.cur.c1;have kz:=S0.out.cur.fz;have kl:=S0.out.cur.lt;obtain⟨T,hT⟩:∃ T,arrowF L k=T:=⟨_,rfl⟩
 rw[hT];unfold arrowF at hT;have CP:=hid (fun W (hW:CurAt W B A n c L (k))=>Peek_any B A n c L (k) W hW);have CL:=hid (fun W (hW:CurAt W B A n c L (k))=>show Calls Tryz.prog 75 #[.pointer (some ⟨B,0,none⟩),.int .i64 1] W fun e w'=>e=.returned (.int .i32 (lookF L (k+1)))/\Ext W w' from by simpa using Look_any B A n c L (k) 1 W hW (by omega));have CN:=hid (fun W (hW:CurAt W B A n c L k)=>Need_any B A n c L k 60 W hW (by omega));unfold needF at CN hT;clear h;by_cases h62:lookF L k=62
 ·rw[if_pos h62] at hT;rw[h62] at CP;subst hT;have hk:k<n:=by have:=look_lt' h62 (by omega);have:=HL.out;omega
  have wk:IntKind.i64.wrap ((k:Int)+1)=(k:Int)+1:=IntWalk.i64_in _ (by omega);clear h62;go_enter Tryz.func81,Tryz.ntmps81
  go_wp2_with (first
   | (go_at_call 46;((with_reducible refine (CP.out _ S0.out.cur).mono ?_);rintro e w1 ⟨rfl,x1⟩;have S1:=hid (S0.out.ext x1);clear k1 kz kl;have k1:=S1.out.cur.c1;have kz:=S1.out.cur.fz;have kl:=S1.out.cur.lt;have S2:=hid (S1.out.step H.out (x:=(k:Int)+1) (i:=k+1) (by omega) (by omega));clear x1)))
  go_ret;exact⟨_,rfl,rfl,S2.out.mv⟩
 ·rw[if_neg h62] at hT;have n62:(lookF L k==62)=false:=by simpa using h62
  by_cases h60:lookF L k=60
  ·have hk:k<n:=by have:=look_lt' h60 (by omega);have:=HL.out;omega
   by_cases g62:lookF L (k+1)=62
   ·rw[if_pos ⟨h60,g62⟩] at hT;rw[h60] at CP;rw[g62] at CL;subst hT;have hk1:k+1<n:=by have:=look_lt' g62 (by omega);have:=HL.out;omega
    have wk:IntKind.i64.wrap ((k:Int)+2)=(k:Int)+2:=IntWalk.i64_in _ (by omega);clear h62 n62 h60 g62;go_enter Tryz.func81,Tryz.ntmps81
    go_wp2_with (first
     | (go_at_call 46;((with_reducible refine (CP.out _ S0.out.cur).mono ?_);rintro e w1 ⟨rfl,x1⟩;have S1:=hid (S0.out.ext x1);clear k1 kz kl;have k1:=S1.out.cur.c1;have kz:=S1.out.cur.fz;have kl:=S1.out.cur.lt;clear x1))
     | (go_at_call 46;((with_reducible refine (CP.out _ S1.out.cur).mono ?_);rintro e w2 ⟨rfl,x2⟩;have S2:=hid (S1.out.ext x2);clear k1 kz kl;have k1:=S2.out.cur.c1;have kz:=S2.out.cur.fz;have kl:=S2.out.cur.lt;clear x2))
     | (go_at_call 75;((with_reducible refine (CL.out _ S2.out.cur).mono ?_);rintro e w3 ⟨rfl,x3⟩;have S3:=hid (S2.out.ext x3);clear k1 kz kl;have k1:=S3.out.cur.c1;have kz:=S3.out.cur.fz;have kl:=S3.out.cur.lt;have S4:=hid (S3.out.step H.out (x:=(k:Int)+2) (i:=k+2) (by omega) (by omega));clear x3)))
    go_ret;exact⟨_,rfl,rfl,S4.out.mv⟩
   ·rw[if_neg (by simp[g62]),if_pos h60] at hT;rw[h60] at CP;rw[if_pos h60] at CN;simp only[PR.bind] at hT;subst hT;have n62':(lookF L (k+1)==62)=false:=by simpa using g62
    generalize lookF L (k+1)=r at *;clear h62 n62 h60 g62;go_enter Tryz.func81,Tryz.ntmps81
    go_wp2_with (first
     | (go_at_call 46;((with_reducible refine (CP.out _ S0.out.cur).mono ?_);rintro e w1 ⟨rfl,x1⟩;have S1:=hid (S0.out.ext x1);clear k1 kz kl;have k1:=S1.out.cur.c1;have kz:=S1.out.cur.fz;have kl:=S1.out.cur.lt;clear x1))
     | (go_at_call 46;((with_reducible refine (CP.out _ S1.out.cur).mono ?_);rintro e w2 ⟨rfl,x2⟩;have S2:=hid (S1.out.ext x2);clear k1 kz kl;have k1:=S2.out.cur.c1;have kz:=S2.out.cur.fz;have kl:=S2.out.cur.lt;clear x2))
     | (go_at_call 75;((with_reducible refine (CL.out _ S2.out.cur).mono ?_);rintro e w3 ⟨rfl,x3⟩;have S3:=hid (S2.out.ext x3);clear k1 kz kl;have k1:=S3.out.cur.c1;have kz:=S3.out.cur.fz;have kl:=S3.out.cur.lt;clear x3))
     | (go_at_call 48;((with_reducible refine (CN.out _ S3.out.cur).mono ?_);rintro e w4 ⟨v4,rfl,rfl,m4⟩;have S4:=hid (S3.out.go H.out m4 (by omega));clear k1 kz kl;have k1:=S4.out.cur.c1;have kz:=S4.out.cur.fz;have kl:=S4.out.cur.lt;clear m4)))
    go_ret;exact⟨_,rfl,rfl,S4.out.mv⟩
  ·rw[if_neg (by simp[h60]),if_neg h60] at hT;rw[if_neg h60] at CN;simp only[PR.bind] at hT;subst hT;have n60:(lookF L k==60)=false:=by simpa using h60
   generalize lookF L k=r at *;clear h62 h60;go_enter Tryz.func81,Tryz.ntmps81
   go_wp2_with (first
    | (go_at_call 46;((with_reducible refine (CP.out _ S0.out.cur).mono ?_);rintro e w1 ⟨rfl,x1⟩;have S1:=hid (S0.out.ext x1);clear k1 kz kl;have k1:=S1.out.cur.c1;have kz:=S1.out.cur.fz;have kl:=S1.out.cur.lt;clear x1))
    | (go_at_call 46;((with_reducible refine (CP.out _ S1.out.cur).mono ?_);rintro e w2 ⟨rfl,x2⟩;have S2:=hid (S1.out.ext x2);clear k1 kz kl;have k1:=S2.out.cur.c1;have kz:=S2.out.cur.fz;have kl:=S2.out.cur.lt;clear x2))
    | (go_at_call 48;((with_reducible refine (CN.out _ S2.out.cur).mono ?_);rintro e wz ⟨rfl,qz,mz⟩;have MZ:=hid (S2.out.mv.trans H.out mz);clear mz)))
   exact⟨rfl,rfl,_,MZ.out⟩
theorem CurAt.copy {w:World} {B:Nat} {A:Option Addr} {n c:Nat} {L:List Int} {k j:Nat} {x:Int} (h:CurAt w B A n c L k) (hx:x=j) (hj:j<=n) (t:TypeId) :
  CurAt (w.alloc (.cells #[.slice A n c,.int .i64 x] t)) w.heap.size A n c L j:=by
 subst hx;refine⟨cell_new _ _ _ 0 _ rfl,cell_new _ _ _ 1 _ rfl,fun i=>by simp,by simp,?_,h.nn,hj,h.nb,fun i v hv=>?_⟩
 ·have h1:=SlR.lt (by omega) h.row;exact (h1.ext (keep_rune _) ((Ext.refl w).alloc _)).mono (fun _ _ h=>h) (fun b hb=>by omega)
 ·match i with
  | 0=>omega
  | 1=>omega
  | i+2=>
   have hb:(w.alloc (.cells #[.slice A n c,.int .i64 j] t)).heap[w.heap.size]? =some (.cells #[.slice A n c,.int .i64 j] t):=heap_alloc_new w _;unfold World.cell? at hv;dsimp only at hv;rw[hb] at hv;cases hv
theorem variable_any (B:Nat) (A:Option Addr) (n c:Nat) (L:List Int) (k:Nat) (w:World) (h:CurAt w B A n c L k) (hk:k<n) :
  Calls Tryz.prog 78 #[.pointer (some ⟨B,0,none⟩)] w fun e w'=>e=.returned (.bool (varB L k))/\Ext w w':=by
 have H:=hid h;have HL:=hid h.row.len;have hnb:=h.nb;have hle:=h.le;have c0:=h.c0;have c1:=h.c1;have hfz:=h.fz;have hl:=h.lt;have wk:IntKind.i64.wrap ((k:Int)+1)=(k:Int)+1:=IntWalk.i64_in _ (by omega);have K0:=h.copy (x:=(k:Int)+1) (j:=k+1) (by omega) (by omega) 104;have E0:=hid ((Ext.refl w).alloc (.cells #[.slice A n c,.int .i64 ((k:Int)+1)] 104));have S0:=hid (Cr.refl K0);have HV:=hid (show varB L k=(lookF L (spaceF L (wordF L (k+1)))==61) from rfl);rw[HV.out];have hw:wordF L (k+1)<=n:=by have:=wordF_le (L:=L) (k:=k+1) (by have:=HL.out;omega);have:=HL.out;omega
 have CW:=hid (fun W (hW:CurAt W w.heap.size A n c L (k+1))=>word_any w.heap.size A n c L (k+1) W hW);generalize wordF L (k+1)=j1 at *;have hs:spaceF L j1<=n:=by have:=spaceF_le (L:=L) (k:=j1) (by have:=HL.out;omega);have:=HL.out;omega
 have CS:=hid (fun W (hW:CurAt W w.heap.size A n c L j1)=>space_any w.heap.size A n c L j1 W hW);generalize spaceF L j1=j2 at *;have CP:=hid (fun W (hW:CurAt W w.heap.size A n c L j2)=>Peek_any w.heap.size A n c L j2 W hW);generalize lookF L j2=r at *;generalize nameB L (k+1) j1=nm at *;have K0:=hid K0;clear h HV;go_enter Tryz.func78,Tryz.ntmps78
 go_wp2_with (first
  | (go_at_call 77;((with_reducible refine (CW.out _ S0.out.cur).mono ?_);rintro e w1 ⟨rfl,m1⟩;have S1:=hid (S0.out.go K0.out m1 hw);have k1:=S1.out.cur.c1;have kz:=S1.out.cur.fz;have kl:=S1.out.cur.lt;clear m1))
  | (go_at_call 45;((with_reducible refine (CS.out _ S1.out.cur).mono ?_);rintro e w2 ⟨rfl,m2⟩;have S2:=hid (S1.out.go K0.out m2 hs);clear k1 kz kl;have k1:=S2.out.cur.c1;have kz:=S2.out.cur.fz;have kl:=S2.out.cur.lt;clear m2))
  | (go_at_call 46;((with_reducible refine (CP.out _ S2.out.cur).mono ?_);rintro e w3 ⟨rfl,x3⟩;have S3:=hid (S2.out.ext x3);clear k1 kz kl;have k1:=S3.out.cur.c1;have kz:=S3.out.cur.fz;have kl:=S3.out.cur.lt;clear x3)))
 go_ret;exact⟨rfl,Mv.out E0.out (Nat.le_refl _) S3.out.mv⟩
end Go.Proofs.YthomjcjnalfipaaGreatDoor
