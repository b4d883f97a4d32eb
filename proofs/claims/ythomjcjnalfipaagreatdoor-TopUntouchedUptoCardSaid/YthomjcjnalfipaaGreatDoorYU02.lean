/- A part of the proof of rowTopUntouched.proved. -/
import Derived.Test.YthomjcjnalfipaaGreatDoorYB30
import Derived.Test.YthomjcjnalfipaaGreatDoorYU01
set_option linter.all false
set_option maxRecDepth 100000
set_option maxHeartbeats 4000000
open Go.Lib (hid)
namespace Go.Proofs.YthomjcjnalfipaaGreatDoor
open Go.RowKit
theorem SlR.overIntS {ok:Nat->Prop} {w:World} {A:Option Addr} {n c:Nat} {l:List Sp} {B o:Nat} {v:Int} {u:Value} (h:SlR rSpan 2 ok w A n c l) (hc:w.cell? ⟨B,o,none⟩=some (.int .i64 v)) :
  SlR rSpan 2 ok (w.setCell ⟨B,o,none⟩ u) A n c l:=
 ⟨h.len,h.cap,h.max,fun k x hx=>by
  obtain⟨b,off,vs,e,ho,hl,hr,hcs⟩:=h.at_ k x hx;refine⟨b,off,vs,e,ho,hl,hr,fun j y hy=>?_⟩;have h1:=hcs j y hy;rw[World.cell?_setCell_other]
  ·exact h1
  ·intro e2;rw[e2,h1] at hc;obtain⟨rfl,_⟩:=hr
   match j,hy with
   | 0,hy=>simp at hy;subst hy;simp at hc
   | 1,hy=>simp at hy;subst hy;simp at hc⟩
def FirR (l:List Rule) (w':World) (e:Ending):Prop:=
 ∃ A c,e=.returned (.tuple #[.slice A (ofV (allF l)).length c,.agg #[.int .i64 (ofE (allF l)),.int .i64 0]])/\Spans w' A (ofV (allF l)).length c (ofV (allF l))
theorem ofV_err {l:List Sp} (h:ofE l≠0):ofV l=[]:=by unfold ofV;rw[if_pos h]
section
variable (A : Option Addr) (n c : Nat) (l : List Rule) (w : World) (h : Rules w A n c l)
include h in
theorem Firsts_bad (hr:(wrongRules l).1≠0) :
  Calls Tryz.prog 13 #[.slice A n c] w fun e w'=>e=.returned (.tuple #[.slice none 0 0,.agg #[.int .i64 (wrongRules l).1,.int .i64 (wrongRules l).2]])/\Ext w w':=by
 have e1:=(Ext.refl w).alloc (.cells #[.int .i64 0,.int .i64 0] 34);have k0:(w.alloc (.cells #[.int .i64 0,.int .i64 0] 34)).cell? ⟨w.heap.size,0,none⟩=some (.int .i64 0):=by simp
 have k1:(w.alloc (.cells #[.int .i64 0,.int .i64 0] 34)).cell? ⟨w.heap.size,1,none⟩=some (.int .i64 0):=by simp
 have wb:=Wr.new w #[.int .i64 0,.int .i64 0] 34;have HC:=hid (Wrongs_any A n c l _ (h.ext e1));have hr':((wrongRules l).1 != 0)=true:=by simpa using hr
 clear hr;generalize (wrongRules l).1=p1 at *;generalize (wrongRules l).2=p2 at *;go_enter Tryz.func13,Tryz.ntmps13;go_wp2_with fail;generalize w.alloc (.cells #[.int .i64 0,.int .i64 0] 34)=w1 at *;go_wp2_with (go_at_call 28;refine HC.out.mono ?_;rintro e w2 ⟨rfl,hx2⟩;have v0:=hx2.cell k0;have v1:=hx2.cell k1;have vz:=(wb.ext hx2).2;have n1:=wb.lt hx2);go_region;go_wp2;refine bodyPost_ret (v:=.tuple #[.slice none 0 0,.agg #[.int .i64 p1,.int .i64 p2]]) (by simp[results,Tryz.results13,go_sem,v0,v1,n1]) rfl ?_;exact⟨rfl,((ext_set (ext_set (e1.trans hx2) (Nat.le_refl _) _ _) (Nat.le_refl _) _ _).alloc _).drew⟩
include h in
theorem Firsts_ok (hr:(wrongRules l).1=0):Calls Tryz.prog 13 #[.slice A n c] w fun e w'=>FirR l w' e/\Ext w w':=by
 obtain⟨hr0,hl2,hok⟩:=wrongRules_zero hr;have hcap:=h.cap;have hn2:n<=200:=by rw[<- h.len];exact hl2
 have hlen:=hid h.len;have HR:=hid hr0;have OK:=hid hok;have HAL:=hid (fun k=>allF_len (l.take k) (fun r hr=>OK.out r (List.mem_of_mem_take hr)));clear hr hr0 hok hl2;have e1:=(Ext.refl w).alloc (.cells #[.int .i64 0,.int .i64 0] 34);have k0:(w.alloc (.cells #[.int .i64 0,.int .i64 0] 34)).cell? ⟨w.heap.size,0,none⟩=some (.int .i64 0):=by simp
 have k1:(w.alloc (.cells #[.int .i64 0,.int .i64 0] 34)).cell? ⟨w.heap.size,1,none⟩=some (.int .i64 0):=by simp
 have wb:=Wr.new w #[.int .i64 0,.int .i64 0] 34;have hs0:w.heap.size+1<=(w.alloc (.cells #[.int .i64 0,.int .i64 0] 34)).heap.size:=by simp
 have HC:=hid (Wrongs_any A n c l _ (h.ext e1));go_enter Tryz.func13,Tryz.ntmps13;go_wp2_with fail;generalize w.alloc (.cells #[.int .i64 0,.int .i64 0] 34)=w1 at *;go_wp2_with (go_at_call 28;refine HC.out.mono ?_;rintro e w2 ⟨rfl,hx2⟩;rw[HR.out];have x12:=hx2.alloc (.cells #[.int .i64 0,.int .i64 0] 34));have o0:=OwnR.nil rSpan 30 2 w1.heap.size (w2.alloc (.cells #[.int .i64 0,.int .i64 0] 34));clear HC;generalize w2.alloc (.cells #[.int .i64 0,.int .i64 0] 34)=w3 at *;go_loopw [5,18] (fun v i wr=>∃ k:Nat,k<=n/\i=.int .i64 k/\OwnR rSpan 30 2 w1.heap.size wr v (allF (l.take k))/\Ext w1 wr) (fun _ i _=>n-(intOf i).toNat);case atStart=>exact⟨0,by omega,rfl,o0,x12⟩
 case round=>
  obtain⟨k,hk,rfl,ow,hx⟩:=hrel;by_cases hlt:k<n
  ·obtain⟨r,hrr⟩:=h.idx hlt;have ok:=OK.out r (List.mem_of_getElem? hrr);obtain⟨b,off,s,f,A1,n1,c1,A2,n2,c2,A3,n3,c3,A4,n4,c4,q,rfl,⟨_,hne⟩,hv,j0,j1,j2,j3,j4,j5,j6⟩:=(h.ext (e1.trans hx)).rule hrr;obtain⟨ss,hss,hg⟩:=set0_ok ok;have h0:r.source[0]? =some (set0 r):=by rw[hss];rfl
   have hn0:0<n2:=by rw[<- hv.source.len,hss];simp
   obtain⟨b2,off2,A',n',c',rfl,⟨hb2,hne2⟩,hc2,hsl⟩:=hv.source.sl h0;have hsl:Spans wr A' n' c' (set0 r):=hsl;simp only[Nat.add_zero] at hc2;have HT:Hid (allF (l.take (k+1))=allF (l.take k)++set0 r):=hid (by rw[take_snoc hrr,allF_snoc]);have hal:=HAL.out k;rw[List.length_take] at hal;have hgl:=hg.len;rw[hsl.len] at hgl;have hcap':=hsl.cap;have ea:=(Ext.refl wr).alloc (.cells #[.bool s,.bool f,.slice A1 n1 c1,.slice (some ⟨b2,off2,none⟩) n2 c2,.slice A3 n3 c3,.slice A4 n4 c4,.int .i64 q] 61);have ow1:=ow.ext (keep_span bot) ea;have hx1:=hx.trans ea;have hsl1:=hsl.ext ea;have hbd:(allF (l.take k)).length+n'<=60000:=by omega
   clear hrr ok hv hss hg h0 hal hgl ow hsl;generalize allF (l.take k)=o at *
   go_wp2_with (at_builtin
                refine wpList_appS T_span (by omega) rfl (.tmp 22) (.tmp 26) rfl rfl ow1 rfl hsl1 (fun _ _ h=>h) one_span (keep_span bot) (bot_no _) hbd hx1.size ?_;intro v6 w6 o6 g6 hat6
                have g7:=hx1.app g6 ow1)
   go_roundw;case rel=>exact⟨k+1,by omega,by go_num,by rw[HT.out];exact o6,g7⟩
   case measure=>simp[intOf];omega
  ·have e:k=n:=by omega
   subst e;rw[take_all hlen.out (Nat.le_refl _)] at ow;obtain⟨AO,cO,rfl,sO⟩:=ow.top;have sO:Spans wr AO (allF l).length cO (allF l):=sO;have hal:=HAL.out k;rw[take_all hlen.out (Nat.le_refl _),hlen.out] at hal;have HO:=hid (Of_any AO _ cO (allF l) wr sO (by omega));have HV:=hid (fun h=>ofV_err (l:=allF l) h);have hcO:=sO.cap;clear ow sO hal;generalize (allF l).length=m at *;have hH:w.heap.size+1<=wr.heap.size:=by have:=hx.size;omega
   by_cases hz:ofE (allF l)=0
   ·rw[hz] at HO;have HZ:=hid hz;clear hz;go_wp2_with (go_at_call 29;refine HO.out.mono ?_;rintro e w5 ⟨⟨A5,c5,rfl,s5⟩,x5⟩;have f5:=hx.trans x5;have y0:=f5.cell k0;have y1:=f5.cell k1;have yz:=(wb.ext f5).2;have yl:=wb.lt f5);refine bodyPost_ret (v:=.tuple #[.slice A5 (ofV (allF l)).length c5,.agg #[.int .i64 0,.int .i64 0]]) (by simp[results,Tryz.results13,go_sem,y0,y1,yl]) rfl ?_;exact⟨⟨A5,c5,by rw[HZ.out],(s5.overIntS y0).overIntS (set_other y1 (by omega))⟩,ext_set (ext_set (e1.trans f5) (Nat.le_refl _) _ _) (Nat.le_refl _) _ _⟩
   ·have HV2:=hid (HV.out hz);have hb:(ofE (allF l) != 0)=true:=by simpa using hz
    clear hz HV;go_wp2_with (go_at_call 29;refine HO.out.mono ?_;rintro e w5 ⟨⟨A5,c5,rfl,s5⟩,x5⟩;have f5:=hx.trans x5;have y0:=f5.cell k0;have y1:=f5.cell k1;have yz:=(wb.ext f5).2;have yl:=wb.lt f5;clear s5);refine bodyPost_ret (v:=.tuple #[.slice none 0 0,.agg #[(.int .i64 (ofE (allF l))),.int .i64 0]]) (by simp[results,Tryz.results13,go_sem,y0,y1,yl]) rfl ?_;refine⟨⟨none,0,by rw[HV2.out];rfl,by rw[HV2.out];exact SlR.nil _ _ _ _ _ _ (by unfold maxLen;omega)⟩,?_⟩;exact ext_set (ext_set (e1.trans f5) (Nat.le_refl _) _ _) (Nat.le_refl _) _ _
end
theorem firsts_good {l:List Rule} (hok:∀ r∈l,OkRule r) (he:ofE (allF l)=0):Good (ofV (allF l)):=by
 have hset:=ofS_set (allF_ok hok);have hb:(allF l).any spBad=false:=by rw[List.any_eq_false];intro x hx;simpa using okSp_iff.2 (allF_ok hok x hx)
 by_cases hg:200<(ofS (allF l)).length
 ·rw[(ofE_big hb hg).1] at he;simp at he
 ·rw[(ofE_ok hb hg).2];exact hset.1.good (by omega)
end Go.Proofs.YthomjcjnalfipaaGreatDoor
