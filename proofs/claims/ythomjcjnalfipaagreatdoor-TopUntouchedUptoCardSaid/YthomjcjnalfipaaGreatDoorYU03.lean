/- The law TopUntouched, second form: of texts of 1048576 bytes at most it answers true; arguments stay. -/
import Derived.Test.YthomjcjnalfipaaGreatDoorYB44
import Derived.Test.YthomjcjnalfipaaGreatDoorYU02
set_option linter.all false
set_option maxRecDepth 100000
set_option maxHeartbeats 4000000
open Go.Lib (hid)
namespace Go.Proofs.YthomjcjnalfipaaGreatDoor
open Go.RowKit
theorem TopUntouched_any (s t:ByteArray) (w:World) (hs:s.size<=1048576) (ht:t.size<=1048576):Calls Tryz.prog 4 #[.string s,.string t] w fun e w'=>e=.returned (.bool true)/\Ext w w':=by
 have HAl:=hid (alive_any w);have HSc:=hid (fun W=>script_any s W hs);have HD:=hid (fun W=>Decode_any t W ht);have hdl:=decodeF_len t
 cases hsc:scriptF s with
 | none=>
  rw[hsc] at HSc;clear hsc;go_enter Tryz.func4,Tryz.ntmps4
  go_wp2_with (first
   | (go_at_call 8;refine HAl.out.mono ?_;rintro e w1 ⟨rfl,x1⟩)
   | (go_at_call 9;refine (HSc.out _).mono ?_;rintro e w2 ⟨x2,f,A1,n1,c1,A2,n2,c2,rfl⟩))
  go_ret;exact⟨rfl,(x1.trans x2).alloc _⟩
 | some S=>
  rw[hsc] at HSc;have HLaw:=hid (fun h=>unP_law (b:=t) hsc h);clear hsc;obtain⟨sf,so,sp⟩:=S;dsimp only at HLaw;go_enter Tryz.func4,Tryz.ntmps4
  go_upto_region 6 with (first
   | (go_at_call 8;refine HAl.out.mono ?_;rintro e w1 ⟨rfl,x1⟩)
   | (go_at_call 9;refine (HSc.out _).mono ?_;rintro e w2 ⟨x2,v,rfl,A1,n1,c1,A2,n2,c2,hv,r1,r2⟩;dsimp only at hv r1 r2;subst hv;have R1:=hid r1;have R2:=hid r2;have X2:=hid (x1.trans x2);clear r1 r2))
  have f3:=(Ext.refl w2).alloc (.cells #[.bool sf,.slice A1 n1 c1,.slice A2 n2 c2] 26);have SB:=ScV.new w2 sf A1 n1 c1 A2 n2 c2 26;obtain⟨p0,p1,p2,_,_⟩:=SB;have R13:=hid ((R1.out.ext (keep_span _) f3).mono (fun _ _ h=>h) (fun _ _=>trivial));have R23:=hid ((R2.out.ext (keep_pas _) f3).mono (fun _ _ h=>mono_pas (fun _ _=>trivial) h) (fun _ _=>trivial));have X3:=hid (X2.out.trans f3);have hbw:w2.heap.size<(w2.alloc (.cells #[.bool sf,.slice A1 n1 c1,.slice A2 n2 c2] 26)).heap.size:=by simp
  clear f3 R1 R2 X2;generalize w2.alloc (.cells #[.bool sf,.slice A1 n1 c1,.slice A2 n2 c2] 26)=w3 at *;go_upto_region 7 with (go_at_call 11;refine (HD.out _).mono ?_;rintro e w4 ⟨v,rfl,ov,x4⟩;obtain⟨AT,cT,hv,sT⟩:=ov.top;subst hv;have ST:=hid sT;have X4:=hid x4;clear ov sT);have q0:=X4.out.cell p0;have q1:=X4.out.cell p1;have q2:=X4.out.cell p2;have R14:=hid (R13.out.ext (keep_span _) X4.out);have R24:=hid (R23.out.ext (keep_pas _) X4.out);have X04:=hid (X3.out.trans X4.out);have HGo:=hid (fun (W:World) (e:Ext w4 W)=>Go_one sf A1 n1 c1 A2 n2 c2 so sp AT _ cT (decodeF t) W (R14.out.ext (keep_span _) e) (R24.out.ext (keep_pas _) e) (ST.out.ext (keep_rune top) e));clear p0 p1 p2 R13 R23 X3 X4 HD;generalize decodeF t=T at *;generalize hm:T.length=m at *;have hbl:w2.heap.size<w4.heap.size:=World.block_lt_of_cell? w4 _ q0;have hlen:=hid R24.out.len;have hcap:=R24.out.cap;have hmax:=R24.out.max;unfold maxLen at hmax;have hcT:=ST.out.cap;have hmT:=ST.out.max;unfold maxLen at hmT;go_upto_region 8 with fail;go_loopw [30] (fun v wr=>∃ k:Nat,k<=n2/\v=.int .i64 k/\Hid (∀ j,j<k->∀ p,sp[j]? =some p->unP T p)/\Ext w4 wr) (fun v _=>n2-(intOf v).toNat);case atStart=>exact⟨0,by omega,rfl,hid (fun j h=>absurd h (by omega)),Ext.refl _⟩
  case round=>
   obtain⟨k,hk,rfl,HK,hx⟩:=hrel;by_cases hlt:k<n2
   ·obtain⟨p,hpp⟩:=R24.out.idx hlt;obtain⟨b,off,A',n',c',hA,⟨hb0,_⟩,hps,hr,c0,c1'⟩:=SlR.pas (R24.out.ext (keep_pas top) hx) hpp;subst hA;have hne:b≠wr.heap.size:=by omega
    have HPP:=hid hpp;obtain⟨nm,rs⟩:=p;dsimp only at *;have ea:=(Ext.refl wr).alloc (.cells #[.string nm,.slice A' n' c'] 42);have HRl:=hid (fun W (e:Ext wr W)=>show Rules W A' n' c' rs from (hr.ext (keep_ruleO top) e).mono (fun _ _ h=>rRuleO_top h) (fun _ _=>trivial));clear hpp hr;by_cases hnm:nm=removeS
    ·have gn:(nm.toList==[114,101,109,111,118,101])=true:=by rw[hnm,Lib.toList_data];rfl
     clear hnm;go_wp2_with fail;go_ret;exact⟨rfl,(X04.out.trans hx).trans ea⟩
    ·have gn:(nm.toList==[114,101,109,111,118,101])=false:=lit_ne hnm rfl;by_cases hwr:(wrongRules rs).1=0
     case' neg=>
      have HF:=hid (Firsts_bad A' n' c' rs _ (HRl.out _ ea) hwr);have gz:((wrongRules rs).1 != 0)=true:=by simpa using hwr
      clear hwr hnm;generalize (wrongRules rs).1=e1 at *;generalize (wrongRules rs).2=e2 at *;go_wp2_with (go_at_call 13;refine HF.out.mono ?_;rintro e w6 ⟨rfl,x6⟩);go_ret;exact⟨rfl,((X04.out.trans hx).trans (ea.trans x6)).alloc _⟩
     have HF:=hid (Firsts_ok A' n' c' rs _ (HRl.out _ ea) hwr);by_cases he:ofE (allF rs)=0
     case' neg=>
      have gz:(ofE (allF rs) != 0)=true:=by simpa using he
      clear hwr hnm he;go_wp2_with (go_at_call 13;refine HF.out.mono ?_;rintro e w6 ⟨⟨A6,c6,rfl,s6⟩,x6⟩);go_ret;exact⟨rfl,((X04.out.trans hx).trans (ea.trans x6)).alloc _⟩
     have HG:=hid (firsts_good (wrongRules_zero hwr).2.2 he);have HE:=hid he;have HNM:=hid hnm;clear hwr hnm he;go_upto_region 16 with (go_at_call 13;refine HF.out.mono ?_;rintro e w6 ⟨⟨A6,c6,rfl,s6⟩,x6⟩;rw[HE.out];have S6:=hid s6;have X6:=hid (hx.trans (ea.trans x6));clear s6);have S7:=hid (Spans.ext S6.out ((Ext.refl w6).alloc (.cells #[.int .i64 0,.int .i64 0] 34)));have X7:=hid (X6.out.alloc (.cells #[.int .i64 0,.int .i64 0] 34));clear S6 X6;generalize w6.alloc (.cells #[.int .i64 0,.int .i64 0] 34)=w7 at *;go_loopw [48] (fun v wr=>∃ j:Nat,j<=m/\v=.int .i64 j/\Hid (∀ x∈T.take j,unR ⟨nm,rs⟩ x)/\Ext w7 wr) (fun v _=>m-(intOf v).toNat);case atStart=>exact⟨0,by omega,rfl,hid (fun x h=>by simp at h),Ext.refl _⟩
     case round=>
      obtain⟨j,hj,rfl,HJ,hy⟩:=hrel;by_cases hlj:j<m
      ·obtain⟨x,hxx⟩:=ST.out.idx hlj;obtain⟨b2,off2,hAT,_,hc,hi1,hi2⟩:=(ST.out.ext (keep_rune top) (X7.out.trans hy)).rune hxx;have HC:=hid (setsHas_any A6 _ c6 (ofV (allF rs)) x wr (Spans.ext S7.out hy) (wrong_of_good HG.out));have HU:=hid (fun W=>Upper_any x ⟨hi1,hi2⟩ W);have HL:=hid (fun W=>Lower_any x ⟨hi1,hi2⟩ W);have HT:=hid (take_snoc hxx);clear hxx;subst hAT;cases hh:has (ofV (allF rs)) x
       case' true=>
        have HH:=hid hh;clear hh;go_wp2_with (go_at_call 14;refine HC.out.mono ?_;rintro e w8 ⟨rfl,x8⟩;rw[HH.out]);go_ret;exact⟨rfl,(X04.out.trans X7.out).trans (hy.trans x8)⟩
       have HH:=hid hh;clear hh;by_cases hu:upF x=x
       case' neg=>
        have gu:(upF x != x)=true:=by simpa using hu
        clear hu;generalize upF x=ux at *
        go_wp2_with (first
         | (go_at_call 14;refine HC.out.mono ?_;rintro e w8 ⟨rfl,x8⟩;rw[HH.out])
         | (go_at_call 15;refine (HU.out _).mono ?_;rintro e w9 ⟨rfl,x9⟩))
        go_ret;exact⟨rfl,(X04.out.trans X7.out).trans (hy.trans (x8.trans x9))⟩
       by_cases hl:loF x=x
       case' neg=>
        have gl:(loF x != x)=true:=by simpa using hl
        clear hl;rw[hu] at HU;clear hu;generalize loF x=lx at *
        go_wp2_with (first
         | (go_at_call 14;refine HC.out.mono ?_;rintro e w8 ⟨rfl,x8⟩;rw[HH.out])
         | (go_at_call 15;refine (HU.out _).mono ?_;rintro e w9 ⟨rfl,x9⟩)
         | (go_at_call 16;refine (HL.out _).mono ?_;rintro e w10 ⟨rfl,x10⟩))
        go_ret;exact⟨rfl,(X04.out.trans X7.out).trans (hy.trans (x8.trans (x9.trans x10)))⟩
       have HQ:Hid (∀ y∈T.take (j+1),unR ⟨nm,rs⟩ y):=hid (by
        rw[HT.out];intro y hy2;rcases List.mem_append.1 hy2 with hy2 | hy2
        ·exact HJ.out y hy2
        ·obtain rfl:=List.mem_singleton.1 hy2;exact⟨HH.out,hu,hl⟩)
       rw[hu] at HU;rw[hl] at HL;clear hu hl HT
       go_wp2_with (first
        | (go_at_call 14;refine HC.out.mono ?_;rintro e w8 ⟨rfl,x8⟩;rw[HH.out])
        | (go_at_call 15;refine (HU.out _).mono ?_;rintro e w9 ⟨rfl,x9⟩)
        | (go_at_call 16;refine (HL.out _).mono ?_;rintro e w10 ⟨rfl,x10⟩))
       go_roundw;case rel=>exact⟨j+1,by omega,by go_num,HQ,hy.trans (x8.trans (x9.trans x10))⟩
       case measure=>simp[intOf];omega
      ·have HK2:Hid (∀ j,j<k+1->∀ p,sp[j]? =some p->unP T p):=hid (by
        intro i hi p hp;by_cases hik:i<k
        ·exact HK.out i hik p hp
        ·obtain rfl:i=k:=by omega
         obtain rfl:=Option.some.inj (HPP.out.symm.trans hp)
         exact⟨HNM.out,HE.out,fun y hy2=>HJ.out y (by rw[List.take_of_length_le (by omega)];exact hy2)⟩)
       go_wp2;go_roundw;case rel=>exact⟨k+1,by omega,by go_num,HK2,X7.out.trans hy⟩
       case measure=>simp[intOf];omega
   ·have HR:=hid (HLaw.out (fun j hj p hp=>HK.out j (by have:=hlen.out;omega) p hp));have z0:=hx.cell q0;have z1:=hx.cell q1;have z2:=hx.cell q2;have HGx:=hid (HGo.out wr hx);have STx:=hid (ST.out.ext (keep_rune top) hx);have X0x:=hid (X04.out.trans hx);clear HGo HLaw HK q0 q1 q2;generalize goF ⟨sf,so,sp⟩ T=Z at *;obtain⟨o,e1,e2⟩:=Z;have HR:=HR.out;dsimp only at HR HGx;rcases HR with hz | hz | ⟨hz,hz2⟩
    ·cases hz
     go_wp2_with (first
      | (go_at_call 10;refine HGx.out.mono ?_;rintro e w8 ⟨⟨A8,n8,c8,rfl,s8⟩,x8⟩;have S8:=hid (Runes.ext (s8.mono (fun _ _ h=>h) (fun _ _=>trivial)) ((Ext.refl w8).alloc (.cells #[.int .i64 0,.int .i64 0] 34)));have SX:=hid (Runes.ext STx.out (x8.alloc (.cells #[.int .i64 0,.int .i64 0] 34)));clear s8)
      | (go_at_call 12;refine (Same_any _ _ _ _ _ _ T T _ S8.out SX.out).mono ?_;rintro e w9 ⟨rfl,x9⟩))
     go_ret;exact⟨by simp,X0x.out.trans ((x8.alloc _).trans x9)⟩
    ·subst hz;go_wp2_with (go_at_call 10;refine HGx.out.mono ?_;rintro e w8 ⟨⟨A8,n8,c8,rfl,s8⟩,x8⟩);go_ret;exact⟨rfl,X0x.out.trans (x8.alloc _)⟩
    ·subst hz;have gm:decide ((4000:Int)<(m:Int))=true:=decide_eq_true (by omega);go_wp2_with (go_at_call 10;refine HGx.out.mono ?_;rintro e w8 ⟨⟨A8,n8,c8,rfl,s8⟩,x8⟩);go_ret;exact⟨rfl,X0x.out.trans (x8.alloc _)⟩
end Go.Proofs.YthomjcjnalfipaaGreatDoor
namespace Go.Proofs.YthomjcjnalfipaaGreatDoor.rowTopUntouched
open Go.ChangeShapes Go.WideShapes Go.ChangeAt Go.RowKit
open Go.ChangeMaps (open_string shut_string)
theorem reads (os:Os) {H:Type} (enc:TypeId×Value->H):∃ places,DataW.whole enc Tryz.prog ((topWorld os).forCall (fun _ _=>0) ⟨#[],#[.string ⟨#[]⟩,.string ⟨#[]⟩],[]⟩).memory Tryz.f4.params.toList (Rows.OpenSpec.upto Rows.topUntouchedSpec).vars false #[Value.string ⟨#[]⟩,Value.string ⟨#[]⟩].toList 8=some ([.lit (.string []),.lit (.string [])],[],places):=
 ⟨[],by kernel_rfl⟩
theorem lifted (os:Os) (started:os.Started) (H:Type) (enc:TypeId×Value->H) (F:Stop.Interp) :
  ReturnsInHanded {} Tryz.checked os 4 .any ((Rows.OpenSpec.upto Rows.topUntouchedSpec).preRow enc Tryz.prog Tryz.f4 Rows.topUntouchedUptoRow.domain false Rows.topUntouchedUptoRow.laid) (((Rows.OpenSpec.upto Rows.topUntouchedSpec).at F).post enc Tryz.prog Tryz.f4 false true false false):=by
 obtain⟨places,hx⟩:=reads os enc
 refine returnsInHanded_of_row (C:=Tryz.checked) (s:=(Rows.OpenSpec.upto Rows.topUntouchedSpec)) topOwn started (by kernel_rfl) Tryz.func4
  (witness_row_atRef (enc:=enc) (C:=Tryz.checked) false (topWorld os) #[Value.string ⟨#[]⟩,Value.string ⟨#[]⟩] rfl (by kernel_rfl) (by kernel_rfl) (by kernel_rfl)
   (OpenSpec.preRow_of_cond 8 hx (by kernel_rfl) (fun k hk=>by cases hk;kernel_rfl) (by kernel_rfl) (topLaid os _))) ?_
 intro W base args ds gs before hval0 hW _ hcond _ _ _ _;have hk:Rows.uptoSmall H (ds++gs)=true:=hcond _ rfl;have hval:∀ (j:Nat) t v,Tryz.f4.params[j]? =some t->args[j]? =some v->Value.okWide Tryz.prog W .any base t v:=hval0;have hW':=hW;obtain⟨p,q,hA0,hV,rfl,hfz,hnd⟩:=hW;have hA:DataW.TrodAll enc Tryz.prog W 0 (fun _=>true) true Tryz.f4.params.toList args.toList ds p:=hA0;rw[Tryz.params4] at hA hval;obtain⟨v0,vs0,d0,ds0,p0,q0,hargs,rfl,rfl,h0,r0⟩:=trodAll_cons hA;obtain⟨v1,vs1,d1,ds1,p1,q1,rfl,rfl,rfl,h1,r1⟩:=trodAll_cons r0;obtain⟨rfl,rfl,rfl⟩:=trodAll_nil r1;obtain rfl:args=#[v0,v1]:=by cases args;simp_all
 obtain⟨rfl,rfl⟩:=trodVars_none hV;obtain⟨s0,rfl,rfl,rfl,ws0⟩:=open_string Tryz.underlying9 (hval 0 9 v0 rfl rfl) h0;have z0:s0.size<=1048576:=by have:=text_bulk s0.data.toList hk (by simp);rw[bytes_len] at this;exact this
 obtain⟨s1,rfl,rfl,rfl,ws1⟩:=open_string Tryz.underlying9 (hval 1 9 v1 rfl rfl) h1;have z1:s1.size<=1048576:=by have:=text_bulk s1.data.toList hk (by simp);rw[bytes_len] at this;exact this
 clear hA0;simp only[List.append_nil] at hW';refine (TopUntouched_any s0 s1 W z0 z1).mono fun e W' ⟨he,hg⟩=>?_;subst he;refine⟨_,rfl,_,_,_,[],_,[],hW',trodAll_mk1 (shut_bool Tryz.underlying4 _),(trodAll_cons_mk (shut_string Tryz.underlying9 ws0) (trodAll_cons_mk (shut_string Tryz.underlying9 ws1) trodAll_mk0)),rfl,hg.frame _,fun h=>by cases h⟩
theorem and2 {a b:Bool} (h:a=true) (k:b=true):(a&&b)=true:=by rw[h,k];rfl
theorem closed:joinedFacts Tryz.pinned.checked.prog 4 Tryz.f4 (Rows.OpenSpec.upto Rows.topUntouchedSpec).bare Rows.topUntouchedUptoRow=true:=by
 unfold joinedFacts
 repeat (refine and2 ?_ (by kernel_rfl))
 kernel_rfl
theorem over:Rows.topUntouchedUptoRow.holds Tryz.pinned (Rows.OpenSpec.upto Rows.topUntouchedSpec):=
 OpenClaim.holds_of_cond 4 Tryz.f4 rfl rfl rfl rfl rfl rfl rfl ⟨rfl,rfl,rfl,rfl,rfl⟩ rfl rfl rfl rfl rfl (by kernel_rfl) Tryz.func4 closed
  (of_decide_eq_true (by kernel_rfl)) (by unfold Func.isWrapper;first | (rw[if_pos (by decide +kernel)];kernel_rfl) | (rw[if_neg (by decide +kernel)];exact⟨rfl,rfl⟩))
  (fun os started H enc _ F=>by rw[OpenClaim.pre_eq_preRow];exact lifted os started H enc F)
theorem plain (f:FuncId) (fn:Func) (hf:Tryz.pinned.checked.prog.funcNamed Rows.topUntouchedUptoRow.func=some f) (hfn:Tryz.pinned.checked.prog.funcs[f]? =some fn) :
  true=Tryz.pinned.checked.prog.looks []/\∀ (j:Nat) t,fn.params[j]? =some t->Tryz.pinned.checked.prog.wantsStandIn t=false:=by
 obtain rfl:f=4:=Option.some.inj ((show Tryz.pinned.checked.prog.funcNamed Rows.topUntouchedUptoRow.func=some 4 by kernel_rfl).symm.trans hf) |>.symm
 obtain rfl:fn=Tryz.f4:=(Option.some.inj (Tryz.func4.symm.trans hfn)).symm;refine⟨by kernel_rfl,fun j t ht=>?_⟩;rw[Tryz.params4] at ht;obtain rfl:t=9:=by simpa using Array.mem_of_getElem? ht
 exact (show Tryz.prog.wantsStandIn 9=false by kernel_rfl)
theorem proved:Rows.TopUntouchedUptoCardSaid:=
 Claim7.holds_tied_plain_at .later [] _ _ _ _ over (fun _ h=>by cases h) (by kernel_rfl) (fun _ h=>by cases h) topUntouchedUpto_row_tie rfl ⟨rfl,rfl⟩ (by kernel_rfl) rfl plain (by kernel_rfl)
end Go.Proofs.YthomjcjnalfipaaGreatDoor.rowTopUntouched
#print axioms Go.Proofs.YthomjcjnalfipaaGreatDoor.rowTopUntouched.proved
