/- A part of the proof of rowTopAligned.proved. -/
import Derived.Test.YthomjcjnalfipaaGreatDoorYB34
import Derived.Test.YthomjcjnalfipaaGreatDoorYL01
set_option linter.all false
set_option maxRecDepth 100000
set_option maxHeartbeats 2000000
open Go.Lib (hid)
namespace Go.Proofs.YthomjcjnalfipaaGreatDoor
open Go.RowKit
theorem trace_call {C:Nat} {O:Nat->Prop} {W:World} {xs:List (Int×Int)} {v:Value} {a k:Int} (h:Trc C O W xs v) (hx:xs.length<=40000) (ha:i64 a) (hk:i64 k) :
  Calls Tryz.prog 69 #[.int .i64 a,.int .i64 k,.pointer (some ⟨C,0,none⟩)] W fun e W'=>e=.returned (.tuple #[])/\∃ (O':Nat->Prop) (v':Value),Trc C O' W' (xs++[(a,k)]) v'/\Aside O' W W'/\∀ b,O' b->O b\/W.heap.size<=b:=by
 obtain⟨y0,yz,yl⟩:=h.vr;obtain⟨A,c,rfl,_,_⟩:=h.row.form;have H:=hid h;have P1:=hid (shot_one W (a,k) 93 ha hk);have z1:=(Ext.refl W).alloc (.cells #[.int .i64 a,.int .i64 k] 93);have R1:=hid (h.row.ext (keep_shot bot) z1);have V1:=hid (h.vr.ext z1);have Z1:=hid z1;obtain⟨x2,hx2⟩:∃ z,xs++[(a,k)]=z:=⟨_,rfl⟩
 have HX:=hid hx2;clear h hx2 z1;go_enter Tryz.func69,Tryz.ntmps69;go_wp2_with (at_builtin;refine wpList_appS TE_shot (by omega) rfl (.tmp 5) (.tmp 9) rfl rfl R1.out rfl P1.out (fun _ _ h=>h) one_shot (keep_shot bot) (bot_no _) (by omega) (by simp only[World.size_alloc];omega) ?_;intro v9 w9 o9 g9 hat9;rw[HX.out] at o9;have V9:=V1.out.grown g9 (fun e=>by have:=(R1.out.lt _ e).1;omega);obtain⟨A9,c9,rfl,_,_⟩:=o9.form;have O9:=hid o9;have G9:=hid g9;have H9:=hid hat9;clear y0 yz yl;have V9':=hid V9;obtain⟨y0,yz,yl⟩:=V9;clear o9 g9 hat9);go_end0;rw[HX.out];have sz1:(W.alloc (.cells #[.int .i64 a,.int .i64 k] 93)).heap.size=W.heap.size+1:=World.size_alloc _ _;have hlt:=O9.out.lt;have hsz:=G9.out.size;refine⟨rfl,fun b=>O b\/(Value.slice A9 x2.length c9).ownBlock=some b,⟨_,V9'.out.set _,O9.out.keep (keep_shot bot) (fun b hb=>hb.elim) (fun g hg=>heap_setB (by have:=(hlt g hg).1;omega)),.inl H.out.oc,fun g hg=>.inr hg,fun b hb=>?_⟩,?_,fun b hb=>?_⟩
 ·rw[size_set];rcases hb with hb | hb
  ·have:=H.out.olt b hb;omega
  ·exact (hlt b hb).2
 ·have hs:Aside (fun b=>O b\/(Value.slice A9 x2.length c9).ownBlock=some b) W w9:=by
   have hz:=Z1.out;exact⟨G9.out.os.trans hz.os,G9.out.tape.trans hz.tape,G9.out.output.trans hz.output,Nat.le_trans hz.size hsz,fun b hb hn=>(G9.out.block b (by omega) (fun e=>hn (.inl (H.out.ov b e.symm)))).trans (Ext.block hz hb)⟩
  exact hs.setCell (p:=⟨C,0,none⟩) (.inl H.out.oc) _
 ·rcases hb with hb | hb
  ·exact .inl hb
  ·rcases H9.out with e | e
   ·rw[e] at hb;exact .inl (H.out.ov b hb)
   ·rw[e] at hb;cases hb;right;omega
theorem trace_told (C:Nat):Told (TrcT C) 69 #[.pointer (some ⟨C,0,none⟩)] where
 eg:=enters Tryz.func69 (by kernel_rfl) rfl
 lt:=fun ⟨v,h⟩ b hb=>h.olt b hb
 keep:=fun ⟨v,h⟩ e hn=>⟨v,h.keep e hn⟩
 call:=fun {O W x a k} ⟨v,h⟩ hx ha hk=>(trace_call h hx ha hk).mono fun e W' ⟨h1,O',v',h2,h3,h4⟩=>⟨h1,O',⟨v',h2⟩,h3,h4⟩
def TracePost (w:World) (l:List Rule) (t:List Int) (e:Ending) (w':World):Prop:=
 Ext w w'/\if (vmE l t).1≠0 then e=.returned (.tuple #[.slice none 0 0,.agg #[.int .i64 (vmE l t).1,.int .i64 (vmE l t).2]])
 else ∃ (A:Option Addr) (n c:Nat),e=.returned (.tuple #[.slice A n c,.agg #[.int .i64 0,.int .i64 0]])/\SlR rShot 2 (fun b=>w.heap.size<=b) w' A n c (shotsF l t)
theorem Trace_any (A:Option Addr) (n c:Nat) (l:List Rule) (X:Option Addr) (m d:Nat) (t:List Int) (w:World) (h:Rules w A n c l) (ht:Runes w X m d t) :
  Calls Tryz.prog 37 #[.slice A n c,.slice X m d] w (TracePost w l t):=by
 have e1:Ext w ((w.alloc (.cells #[.int .i64 0,.int .i64 0] 34)).alloc (.cells #[.slice none 0 0] 88)):=((Ext.refl w).alloc _).alloc _;have k0:(((w.alloc (.cells #[.int .i64 0,.int .i64 0] 34)).alloc (.cells #[.slice none 0 0] 88))).cell? ⟨w.heap.size,0,none⟩=some (.int .i64 0):=by simp
 have k1:(((w.alloc (.cells #[.int .i64 0,.int .i64 0] 34)).alloc (.cells #[.slice none 0 0] 88))).cell? ⟨w.heap.size,1,none⟩=some (.int .i64 0):=by simp
 have wa:=(Wr.new w #[.int .i64 0,.int .i64 0] 34).ext ((Ext.refl _).alloc (.cells #[.slice none 0 0] 88));have vc:Vr ((w.alloc (.cells #[.int .i64 0,.int .i64 0] 34)).alloc (.cells #[.slice none 0 0] 88)) (w.heap.size+1) (.slice none 0 0):=by have:Vr ((w.alloc (.cells #[.int .i64 0,.int .i64 0] 34)).alloc (.cells #[.slice none 0 0] 88)) (w.alloc (.cells #[.int .i64 0,.int .i64 0] 34)).heap.size (.slice none 0 0):=⟨cell_new _ _ _ 0 _ rfl,by simp,by simp⟩;rw[World.size_alloc] at this;exact this
 have hs2:(((w.alloc (.cells #[.int .i64 0,.int .i64 0] 34)).alloc (.cells #[.slice none 0 0] 88))).heap.size=w.heap.size+1+1:=by simp
 have HP:=hid (play_any (T:=TrcT (w.heap.size+1)) (O0:=fun b=>b=w.heap.size+1) A n c l X m d t _ (trace_told _) ((rules_lt h).ext (keep_ruleO _) e1) (fun b hb=>⟨by have:b<w.heap.size:=hb;omega,fun e=>by have:b<w.heap.size:=hb;omega⟩) (ht.ext e1)
  ⟨_,vc,OwnR.nil _ _ _ _ _,rfl,fun g hg=>(by cases hg),fun b hb=>by have:b=w.heap.size+1:=hb;omega⟩)
 have X1:=hid e1;clear h ht vc e1;go_enter Tryz.func37,Tryz.ntmps37;go_wp2_with fail;generalize ((w.alloc (.cells #[.int .i64 0,.int .i64 0] 34)).alloc (.cells #[.slice none 0 0] 88))=w1 at *;by_cases hv:(vmE l t).1≠0
 ·have HV:=hid hv;have gv:((vmE l t).1 != 0)=true:=by simpa using hv
  clear hv;go_wp2_with (go_at_call 68;refine HP.out.mono ?_;rintro e w2 ⟨hA,he⟩;rw[if_pos HV.out] at he;subst he;have hx2:=hid (Aside.ext hA (fun b hb=>by omega) X1.out);have v0:=hA.cell k0 (show ¬ (w.heap.size=w.heap.size+1\/w1.heap.size<=w.heap.size) by omega);have v1:=hA.cell k1 (show ¬ (w.heap.size=w.heap.size+1\/w1.heap.size<=w.heap.size) by omega);have va:=(wa.keepB (hA.block _ wa.1 (show ¬ (w.heap.size=w.heap.size+1\/w1.heap.size<=w.heap.size) by omega)) hA.size).2;have n1:w.heap.size<w2.heap.size/\w.heap.size≠w2.heap.size:=(by have:=hA.size;omega);clear hA);go_region;go_wp2;refine bodyPost_ret (v:=.tuple #[.slice none 0 0,.agg #[.int .i64 (vmE l t).1,.int .i64 (vmE l t).2]]) (by simp[results,Tryz.results37,go_sem,v0,v1,va,n1]) rfl ?_;refine⟨Ext.drew ?_,by rw[if_pos HV.out]⟩;exact ((ext_set (ext_set hx2.out (Nat.le_refl _) _ _) (Nat.le_refl _) _ _).alloc _).alloc _
 ·have HV:=hid hv;have hv0:=Decidable.not_not.1 hv;have hv1:=HV.out;clear hv;go_wp2_with (go_at_call 68;refine HP.out.mono ?_;rintro e w2 ⟨hA,he⟩;rw[if_neg HV.out] at he;obtain⟨A2,n2,c2,s,p,O,rfl,_,⟨v,htr⟩,_⟩:=he;obtain⟨A5,c5,rfl,_,_⟩:=htr.row.form;have TR:=hid htr.row;obtain⟨y0,yz,yl⟩:=htr.vr;have hx2:=hid (Aside.ext hA (fun b hb=>by omega) X1.out);have v0:=hA.cell k0 (show ¬ (w.heap.size=w.heap.size+1\/w1.heap.size<=w.heap.size) by omega);have v1:=hA.cell k1 (show ¬ (w.heap.size=w.heap.size+1\/w1.heap.size<=w.heap.size) by omega);have va:=(wa.keepB (hA.block _ wa.1 (show ¬ (w.heap.size=w.heap.size+1\/w1.heap.size<=w.heap.size) by omega)) hA.size).2;have n1:w.heap.size<w2.heap.size/\w.heap.size≠w2.heap.size:=(by have:=hA.size;omega);clear hA htr);refine bodyPost_ret (v:=.tuple #[.slice A5 (shotsF l t).length c5,.agg #[.int .i64 0,.int .i64 0]]) (by simp[results,Tryz.results37,go_sem,v0,v1,va,n1,y0]) rfl ?_;refine⟨?_,?_⟩
  ·exact ((ext_set (ext_set hx2.out (Nat.le_refl _) _ _) (Nat.le_refl _) _ _).alloc _).alloc _
  ·rw[if_neg HV.out];refine⟨A5,_,c5,rfl,?_⟩;obtain⟨A6,c6,e6,h6⟩:=TR.out.sl;cases e6;refine ((h6.keep (keep_shot _) (w':=(w2.setCell ⟨w.heap.size,0,none⟩ (.int .i64 0)).setCell ⟨w.heap.size,1,none⟩ (.int .i64 0)) (fun b hb hl=>?_)).ext (keep_shot _) (((Ext.refl _).alloc _).alloc _)).mono (fun _ _ h=>h) (fun b hb=>by omega);have q1:b≠w.heap.size:=by omega
   simp only[heap_setB q1]
end Go.Proofs.YthomjcjnalfipaaGreatDoor
