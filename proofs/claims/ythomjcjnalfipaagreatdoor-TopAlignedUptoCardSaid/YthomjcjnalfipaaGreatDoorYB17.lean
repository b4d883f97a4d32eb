/- A part of the proofs of the Top laws. -/
import Derived.Deep.RegionHeld3
import Derived.StillTail
import Derived.Test.YthomjcjnalfipaaGreatDoorRows
import Derived.ProofKit
import Derived.OpenShut
import Derived.ChangeOld
import Derived.Deep.Fields
import Derived.Test.YthomjcjnalfipaaGreatDoorYB16
set_option linter.all false
set_option maxRecDepth 100000
set_option maxHeartbeats 3200000
open Go.Lib (hid)
namespace Go.Proofs.YthomjcjnalfipaaGreatDoor
open Go.RowKit
theorem hexF_i32 {L:List Int} {k k1:Nat} {a:Int} (hk:k+2<=L.length) (h:hexF L k=.ok a k1):i32 a:=by
 unfold hexF at h;split at h
 ·cases h
 ·dsimp only at h;split at h
  ·cases h
  ·split at h
   ·cases h
   ·split at h
    ·cases h
    ·cases h;have h1:=scan_list (p:=hexB) (L:=L) (k:=k+2) hk;have h2:=hexN_hexA _ h1;unfold i32;omega
theorem charF_i32 {L:List Int} {k k1:Nat} {a:Int} (hL:∀ r∈L,i32 r) (h:charF L k=.ok a k1):i32 a:=by
 unfold charF at h;split at h
 ·cases h;exact lookF_i32 hL _
 split at h
 ·cases h
 split at h
 ·cases h;unfold i32;omega
 split at h
 ·cases h;unfold i32;omega
 split at h
 ·rename_i h117;have hk:k+1<L.length:=look_lt' h117 (by omega);by_cases h123:lookF L (k+1+1)=123
  ·exact hexF_i32 (by have:=look_lt' h123 (by omega);omega) h
  ·unfold hexF at h;rw[if_pos h123] at h;cases h
 split at h
 ·cases h
 ·cases h;exact lookF_i32 hL _
theorem one_sp {a b:Int} (ha:i32 a) (hb:i32 b) {base:Nat} (W:World) (hB:base<=W.heap.size) :
  SlR rSpan 2 (fun x=>base<=x) (W.alloc (.cells #[.int .i32 a,.int .i32 b] 30)) (some ⟨W.heap.size,0,none⟩) 1 1 [⟨a,b⟩]:=by
 have h:=span_new W ⟨a,b⟩ 30 ha hb;refine⟨h.len,h.cap,h.max,fun i x hx=>?_⟩;obtain⟨b',off,vs,e,_,hl,hr,hc⟩:=h.at_ i x hx;refine⟨b',off,vs,e,?_,hl,hr,hc⟩;cases e;omega
theorem spanC_any (B:Nat) (A:Option Addr) (n c:Nat) (L:List Int) (k:Nat) (w:World) (h:CurAt w B A n c L k) :
  Calls Tryz.prog 115 #[.pointer (some ⟨B,0,none⟩)] w fun e w'=>PRet w B (spanF L k) (rS w.heap.size) e w':=by
 have H:=hid h;have HL:=hid h.row.len;have hI:=h.i32;have hnb:=h.nb;have CH:=hid (Char_any B A n c L k w h);obtain⟨V,hV⟩:∃ V,V=spanF L k:=⟨_,rfl⟩
 rw[<- hV];unfold spanF at hV
 cases hX:charF L k with
 | fail er q=>
  rw[hX] at CH hV;simp only[PR.bind] at hV;subst hV;clear hX h hI;go_enter Tryz.func115,Tryz.ntmps115
  go_wp2_with (first
   | (go_at_call 148;((with_reducible refine (CH.out).mono ?_);rintro e w1 ⟨rfl,q,m1⟩;have M1:=hid m1;clear m1)))
  exact⟨rfl,rfl,_,M1.out⟩
 | ok low k1=>
  have hlow:=charF_i32 hI hX;have hk1n:k1<=n:=by rw[<- HL.out];exact (charF_adv _ _ hX).2
  rw[hX] at CH hV;simp only[PR.bind] at hV;have CP:=hid (fun W (hW:CurAt W B A n c L k1)=>Peek_any B A n c L k1 W hW);have CL:=hid (fun W (hW:CurAt W B A n c L k1)=>show Calls Tryz.prog 75 #[.pointer (some ⟨B,0,none⟩),.int .i64 1] W fun e w'=>e=.returned (.int .i32 (lookF L (k1+1)))/\Ext W w' from by simpa using Look_any B A n c L k1 1 W hW (by omega));have wk:IntKind.i64.wrap ((k1:Int)+1)=(k1:Int)+1:=IntWalk.i64_in _ (by omega);by_cases p1:lookF L k1=45
  ·have hk1:k1<n:=by have:=look_lt' p1 (by omega);have:=HL.out;omega
   rw[p1] at CP;by_cases p2:lookF L (k1+1)=91
   ·rw[if_neg (by simp[p2])] at hV;subst hV;rw[p2] at CL;clear hX h hI p1 p2;go_enter Tryz.func115,Tryz.ntmps115
    go_wp2_with (first
     | (go_at_call 148;((with_reducible refine (CH.out).mono ?_);rintro e w1 ⟨v,rfl,rfl,m1⟩;have M1:=hid m1;have HC1:=hid (H.out.mv m1 hk1n);clear m1))
     | (go_at_call 46;((with_reducible refine (CP.out _ HC1.out).mono ?_);rintro e w2 ⟨rfl,x2⟩;have M2:=hid (M1.out.ext x2);have hc2:=HC1.out.ext x2;have k1':=hc2.c1;have kz:=hc2.fz;have kl:=hc2.lt;have HC2:=hid hc2;clear x2 hc2))
     | (go_at_call 75;((with_reducible refine (CL.out _ HC2.out).mono ?_);rintro e w3 ⟨rfl,x3⟩;have M3:=hid (M2.out.ext x3);have hc3:=HC2.out.ext x3;clear k1' kz kl;clear x3 hc3)))
    go_ret;exact⟨_,rfl,⟨_,_,_,rfl,one_sp hlow hlow _ (Mv.size M3.out)⟩,M3.out.ext ((Ext.refl _).alloc _)⟩
   ·rw[if_pos ⟨p1,p2⟩] at hV;have n2:(lookF L (k1+1) != 91)=true:=by simpa using p2
    have CH2:=hid (fun W (hW:CurAt W B A n c L (k1+1))=>Char_any B A n c L (k1+1) W hW)
    cases hY:charF L (k1+1) with
    | fail er q=>
     rw[hY] at CH2 hV;dsimp only at hV;subst hV;clear hX hY h hI p1 p2;generalize lookF L (k1+1)=r at *;go_enter Tryz.func115,Tryz.ntmps115
     go_wp2_with (first
      | (go_at_call 148;((with_reducible refine (CH.out).mono ?_);rintro e w1 ⟨v,rfl,rfl,m1⟩;have M1:=hid m1;have HC1:=hid (H.out.mv m1 hk1n);clear m1))
      | (go_at_call 46;((with_reducible refine (CP.out _ HC1.out).mono ?_);rintro e w2 ⟨rfl,x2⟩;have M2:=hid (M1.out.ext x2);have hc2:=HC1.out.ext x2;have k1':=hc2.c1;have kz:=hc2.fz;have kl:=hc2.lt;have HC2:=hid hc2;clear x2 hc2))
      | (go_at_call 75;((with_reducible refine (CL.out _ HC2.out).mono ?_);rintro e w3 ⟨rfl,x3⟩;have M3:=hid (M2.out.ext x3);have hc3:=HC2.out.ext x3;clear k1' kz kl;have k1':=hc3.c1;have kz:=hc3.fz;have kl:=hc3.lt;have HC3:=hid (hc3.setX (x:=(k1:Int)+1) (j:=k1+1) (by omega) (by omega));have M3s:=hid (M3.out.setX H.out (x:=(k1:Int)+1) (i:=k1+1) (by omega));have k2':=HC3.out.c1;clear x3 hc3))
      | (go_at_call 148;((with_reducible refine (CH2.out _ HC3.out).mono ?_);rintro e w4 ⟨rfl,q,m4⟩;have M4:=hid (M3s.out.trans H.out m4);clear m4)))
     exact⟨rfl,rfl,_,M4.out⟩
    | ok high k2=>
     have hhigh:=charF_i32 hI hY;rw[hY] at CH2 hV;dsimp only at hV;by_cases hlt:high<low
     ·rw[if_pos hlt] at hV;subst hV;have CF:=hid (fun W=>Fail_any 3 ((k1:Int)+1) W);clear hX hY h hI p1 p2;generalize lookF L (k1+1)=r at *;go_enter Tryz.func115,Tryz.ntmps115
      go_wp2_with (first
       | (go_at_call 148;((with_reducible refine (CH.out).mono ?_);rintro e w1 ⟨v,rfl,rfl,m1⟩;have M1:=hid m1;have HC1:=hid (H.out.mv m1 hk1n);clear m1))
       | (go_at_call 46;((with_reducible refine (CP.out _ HC1.out).mono ?_);rintro e w2 ⟨rfl,x2⟩;have M2:=hid (M1.out.ext x2);have hc2:=HC1.out.ext x2;have k1':=hc2.c1;have kz:=hc2.fz;have kl:=hc2.lt;have HC2:=hid hc2;clear x2 hc2))
       | (go_at_call 75;((with_reducible refine (CL.out _ HC2.out).mono ?_);rintro e w3 ⟨rfl,x3⟩;have M3:=hid (M2.out.ext x3);have hc3:=HC2.out.ext x3;clear k1' kz kl;have k1':=hc3.c1;have kz:=hc3.fz;have kl:=hc3.lt;have HC3:=hid (hc3.setX (x:=(k1:Int)+1) (j:=k1+1) (by omega) (by omega));have M3s:=hid (M3.out.setX H.out (x:=(k1:Int)+1) (i:=k1+1) (by omega));have k2':=HC3.out.c1;clear x3 hc3))
       | (go_at_call 148;((with_reducible refine (CH2.out _ HC3.out).mono ?_);rintro e w4 ⟨v,rfl,rfl,m4⟩;have M4:=hid (M3s.out.trans H.out m4);clear m4))
       | (go_at_call 44;((with_reducible refine (CF.out _).mono ?_);rintro e w5 ⟨rfl,rfl⟩)))
      exact⟨rfl,rfl,_,M4.out⟩
     ·rw[if_neg hlt] at hV;subst hV;clear hX hY h hI p1 p2;generalize lookF L (k1+1)=r at *;go_enter Tryz.func115,Tryz.ntmps115
      go_wp2_with (first
       | (go_at_call 148;((with_reducible refine (CH.out).mono ?_);rintro e w1 ⟨v,rfl,rfl,m1⟩;have M1:=hid m1;have HC1:=hid (H.out.mv m1 hk1n);clear m1))
       | (go_at_call 46;((with_reducible refine (CP.out _ HC1.out).mono ?_);rintro e w2 ⟨rfl,x2⟩;have M2:=hid (M1.out.ext x2);have hc2:=HC1.out.ext x2;have k1':=hc2.c1;have kz:=hc2.fz;have kl:=hc2.lt;have HC2:=hid hc2;clear x2 hc2))
       | (go_at_call 75;((with_reducible refine (CL.out _ HC2.out).mono ?_);rintro e w3 ⟨rfl,x3⟩;have M3:=hid (M2.out.ext x3);have hc3:=HC2.out.ext x3;clear k1' kz kl;have k1':=hc3.c1;have kz:=hc3.fz;have kl:=hc3.lt;have HC3:=hid (hc3.setX (x:=(k1:Int)+1) (j:=k1+1) (by omega) (by omega));have M3s:=hid (M3.out.setX H.out (x:=(k1:Int)+1) (i:=k1+1) (by omega));have k2':=HC3.out.c1;clear x3 hc3))
       | (go_at_call 148;((with_reducible refine (CH2.out _ HC3.out).mono ?_);rintro e w4 ⟨v,rfl,rfl,m4⟩;have M4:=hid (M3s.out.trans H.out m4);clear m4)))
      go_ret;exact⟨_,rfl,⟨_,_,_,rfl,one_sp hlow hhigh _ (Mv.size M4.out)⟩,M4.out.ext ((Ext.refl _).alloc _)⟩
  ·rw[if_neg (by simp[p1])] at hV;have n1:(lookF L k1==45)=false:=by simpa using p1
   subst hV;clear hX h hI p1;generalize lookF L k1=r at *;go_enter Tryz.func115,Tryz.ntmps115
   go_wp2_with (first
    | (go_at_call 148;((with_reducible refine (CH.out).mono ?_);rintro e w1 ⟨v,rfl,rfl,m1⟩;have M1:=hid m1;have HC1:=hid (H.out.mv m1 hk1n);clear m1))
    | (go_at_call 46;((with_reducible refine (CP.out _ HC1.out).mono ?_);rintro e w2 ⟨rfl,x2⟩;have M2:=hid (M1.out.ext x2);have hc2:=HC1.out.ext x2;have k1':=hc2.c1;have kz:=hc2.fz;have kl:=hc2.lt;have HC2:=hid hc2;clear x2 hc2)))
   go_ret;exact⟨_,rfl,⟨_,_,_,rfl,one_sp hlow hlow _ (Mv.size M2.out)⟩,M2.out.ext ((Ext.refl _).alloc _)⟩
def wpE (P:Program) (md:Region.Mode) (ops:Array Oper) (Q:Exit->Act->World->Prop) (S:World->Prop) (z:Nat):Nat->Array Bool->Act->World->Prop
 | 0,listed,a,w=>Region.ready md ops listed=[]/\Q .normal a w
 | fuel+1,listed,a,w=>(Region.ready md ops listed=[]->Q .normal a w) /\
   ∀ i∈Region.ready md ops listed,wpOp P ops Q i (fun a' w'=>(i=z\/S w')/\wpE P md ops Q S z fuel (listed.setIfInBounds i true) a' w') a w
def closedB (md:Region.Mode) (ops:Array Oper) (listed:Array Bool):Bool:=
 (List.range ops.size).all fun j=>!listed.getD j false||match ops[j]? with
  | some o=>o.after.all fun e=>!Region.binds md e||listed.getD e.on false
  | none=>true
def Closed (md:Region.Mode) (ops:Array Oper) (listed:Array Bool):Prop:=
 ∀ j oj,ops[j]? =some oj->listed.getD j false=true->∀ e∈oj.after,Region.binds md e=true->listed.getD e.on false=true
theorem closed_of {md:Region.Mode} {ops:Array Oper} {listed:Array Bool} (h:closedB md ops listed=true):Closed md ops listed:=fun j oj hj hl e he hb=>by
 have hlt:j<ops.size:=(Array.getElem?_eq_some_iff.1 hj).1;have h1:=List.all_eq_true.1 h j (List.mem_range.2 hlt);rw[hj,hl] at h1;simp only[Bool.not_true,Bool.false_or] at h1;have h2:=Array.all_eq_true'.1 h1 e he;rw[hb] at h2;simpa using h2
theorem Closed.set {md:Region.Mode} {ops:Array Oper} {listed:Array Bool} (h:Closed md ops listed) {i:Nat} (hi:i∈Region.ready md ops listed):Closed md ops (listed.setIfInBounds i true):=by
 obtain⟨_,oi,hoi,hall⟩:=mem_ready.1 hi;intro j oj hj hl e he hb;by_cases hij:i=j
 ·subst hij;have:oj=oi:=Option.some.inj (hj.symm.trans hoi);subst this;exact getD_set_true (hall e he hb)
 ·rw[getD_set_ne false hij] at hl;exact getD_set_true (h j oj hj hl e he hb)
def pathB (md:Region.Mode) (ops:Array Oper):Nat->List Nat->Nat->Bool
 | z,[],i=>Region.waitsFor md ops z i
 | z,c::p,i=>Region.waitsFor md ops z c&&pathB md ops c p i
theorem path_listed {md:Region.Mode} {ops:Array Oper} {listed:Array Bool} (h:Closed md ops listed):∀ {p:List Nat} {z i:Nat} {oz:Oper},ops[z]? =some oz ->
  (∀ e∈oz.after,Region.binds md e=true->listed.getD e.on false=true)->pathB md ops z p i=true->listed.getD i false=true
 | [],z,i,oz,hz,hall,hp=>by
  obtain⟨o',ho',e,he,hb,hon⟩:=Region.waitsFor_spec hp;have:o'=oz:=Option.some.inj (ho'.symm.trans hz);subst this;rw[<- hon];exact hall e he hb
 | c::p,z,i,oz,hz,hall,hp=>by
  simp only[pathB,Bool.and_eq_true] at hp;obtain⟨o',ho',e,he,hb,hon⟩:=Region.waitsFor_spec hp.1;have:o'=oz:=Option.some.inj (ho'.symm.trans hz);subst this;have hc:listed.getD c false=true:=by rw[<- hon];exact hall e he hb
  have hoc:∃ oc,ops[c]? =some oc:=by
   cases p with
   | nil=>obtain⟨o2,h2,_⟩:=Region.waitsFor_spec hp.2;exact⟨o2,h2⟩
   | cons c2 p2=>
    have h3:=hp.2;simp only[pathB,Bool.and_eq_true] at h3;obtain⟨o2,h2,_⟩:=Region.waitsFor_spec h3.1;exact⟨o2,h2⟩
  obtain⟨oc,hoc⟩:=hoc;exact path_listed h hoc (fun e' he' hb'=>h c oc hoc hc e' he' hb') hp.2
section
variable {P : Program} {md : Region.Mode} {ops : Array Oper} {Q : Exit -> Act -> World -> Prop} {S : World -> Prop} {z : Nat}
theorem wpE_sound:∀ (fuel:Nat) (listed:Array Bool) (a:Act) (w:World),wpE P md ops Q S z fuel listed a w->wpAny P md ops Q fuel listed a w
 | 0,_,_,_,h=>h
 | fuel+1,_,_,_,h=>⟨h.1,fun i hi=>wpOp_mono (fun a' w' h'=>wpE_sound fuel _ a' w' h'.2) (h.2 i hi)⟩
theorem wpE_first {i:Nat} {oi:Oper} {v:Value} (hi:ops[i]? =some oi) (hsel:∀ (j:Nat) (o:Oper) cs b,ops[j]? =some o->o.op≠ .select cs b)
  (hQ:∀ c a w,Q (.panic c) (a.put oi.dst v) w->Q (.panic c) a w) {path:List Nat} (hz:pathB md ops z path i=true) :
  ∀ (fuel:Nat) (listed:Array Bool) (a:Act) (w:World),Closed md ops listed ->
   (∀ j oj,ops[j]? =some oj->j≠i->listed.getD j true=false->(∀ e∈oj.after,Region.binds md e=true->e.on≠i)->oi.apart ops oj=true) ->
   i∈Region.ready md ops listed->YieldsIf P ops S oi v a->S w ->
   wpE P md ops Q S z fuel (listed.setIfInBounds i true) (a.put oi.dst v) w->wpE P md ops Q S z (fuel+1) listed a w:=by
 intro fuel
 induction fuel with
 | zero=>
  intro listed a w _ _ hr hy hS H;refine⟨fun h=>(by rw[h] at hr;cases hr),fun j hj=>?_⟩;by_cases hji:j=i
  ·subst hji;exact hy.wpOp hi hS ⟨.inr hS,H⟩
  ·have:=ready_mono hj hji;rw[H.1] at this;cases this
 | succ fuel ih=>
  intro listed a w hcl hfree hr hy hS H;refine⟨fun h=>(by rw[h] at hr;cases hr),fun j hj=>?_⟩;by_cases hji:j=i
  ·subst hji;exact hy.wpOp hi hS ⟨.inr hS,H⟩
  ·have h1:=H.2 j (ready_mono hj hji);obtain⟨hjun,oj,hoj,hall⟩:=mem_ready.1 hj;have hun:listed.getD i false=false:=getD_both (mem_ready.1 hr).1
   have hnot:∀ e∈oj.after,Region.binds md e=true->e.on≠i:=fun e he hb heq=>by
    have h2:=hall e he hb;rw[heq,hun] at h2;cases h2
   have hjz:j≠z:=fun e=>by
    subst e;have h3:=path_listed hcl hoj hall hz;rw[hun] at h3;cases h3
   have h2:=wpOp_putIf hoj (hfree j oj hoj hji hjun hnot) (fun cs b=>hsel i oi cs b hi) (fun cs b=>hsel j oj cs b hoj) hQ hy h1
   have hfree':∀ k ok,ops[k]? =some ok->k≠i->(listed.setIfInBounds j true).getD k true=false ->
     (∀ e∈ok.after,Region.binds md e=true->e.on≠i)->oi.apart ops ok=true:=fun k ok hk hki hun hno=>by
    refine hfree k ok hk hki ?_ hno;by_cases hjk:j=k
    ·subst hjk;exact hjun
    ·rw[getD_set_ne true hjk] at hun;exact hun
   refine wpOp_mono (fun a' w' h3=>⟨h3.2.1,ih (listed.setIfInBounds j true) a' w' (hcl.set hj) hfree' (ready_mono hr (Ne.symm hji)) h3.1 (h3.2.1.resolve_left hjz) ?_⟩) h2;rw[Array.setIfInBounds_comm _ _ hji];exact h3.2.2
theorem wpE_take (path:List Nat) {i:Nat} {oi:Oper} {v:Value} {fuel:Nat} {listed:Array Bool} {a:Act} {w:World} (hi:ops[i]? =some oi)
  (hs:Region.noSelect ops=true) (hf:Region.free md ops listed i=true) (hr:(Region.ready md ops listed).contains i=true) (hz:pathB md ops z path i=true) (hcl:closedB md ops listed=true)
  (hQ:∀ c a w,Q (.panic c) (a.put oi.dst v) w->Q (.panic c) a w) (hS:S w) (hy:YieldsIf P ops S oi v a)
  (h:wpE P md ops Q S z fuel (listed.setIfInBounds i true) (a.put oi.dst v) w):wpE P md ops Q S z (fuel+1) listed a w:=
 wpE_first hi (Region.noSelect_spec hs) hQ hz fuel listed a w (closed_of hcl) (Region.free_spec hi hf) (by simpa using hr) hy hS h
theorem wpE_one {i:Nat} {o:Oper} {fuel:Nat} {listed:Array Bool} {a:Act} {w:World} (ho:ops[i]? =some o) (hr:Region.ready md ops listed=[i])
  (h:∀ K':Act->World->Prop,Hid (∀ a w,(i=z\/S w)->wpE P md ops Q S z fuel (listed.setIfInBounds i true) a w->K' a w) ->
   if Region.wanted o (yielded ops a.tmps)=true then Oper.wp P o a w K' Q else K' (a.put o.dst undef) w):wpE P md ops Q S z (fuel+1) listed a w:=
 by
  refine⟨fun h0=>?_,fun j hj=>?_⟩
  ·rw[hr] at h0;cases h0
  ·rw[hr] at hj;obtain rfl:j=i:=by simpa using hj
   exact wpOp_step ho (fun K' hK=>h K' (fun a w hS hW=>hK a w ⟨hS,hW⟩))
theorem wpE_done {listed:Array Bool} {a:Act} {w:World} (hr:Region.ready md ops listed=[]) (h:Q .normal a w):∀ fuel,wpE P md ops Q S z fuel listed a w
 | 0=>⟨hr,h⟩
 | _+1=>⟨fun _=>h,by rw[hr];simp⟩
theorem wp_region_E (S:World->Prop) (z:Nat) {id:Nat} {a:Act} {w:World} (hm:P.follows .mixedOrders=true)
  (h:wpE P .any ops Q S z ops.size (Array.replicate ops.size false) a w.drew):(Code.region id ops true).wp P Q a w:=
 wp_region_any hm (wpE_sound _ _ _ _ h)
end
structure SAt (w:World) (B Tb Qb:Nat) (A:Option Addr) (n c:Nat) (L:List Int) (j:Nat) (A':Option Addr) (n' c':Nat) (s:List Sp) (W:World):Prop where
 cur:CurAt W B A n c L j
 mv:Mv B j w W
 box:W.cell? ⟨Tb,0,none⟩=some (.pointer (some ⟨B,0,none⟩))
 val:W.cell? ⟨Qb,0,none⟩=some (.slice A' n' c')
 sp:SlR rSpan 2 (fun b=>w.heap.size<=b/\b≠Qb) W A' n' c' s
 fz:∀ i,W.frozen? ⟨Qb,i,none⟩=false
 lt:Tb<W.heap.size/\Qb<W.heap.size
 ne:w.heap.size<=Tb/\w.heap.size<=Qb/\Tb≠Qb/\B<w.heap.size
 only:∀ i v,W.cell? ⟨Qb,i,none⟩=some v->i<1
section
variable {w W W' : World} {B Tb Qb : Nat} {A A' A2 : Option Addr} {n c n' c' n2 c2 j i : Nat} {L : List Int} {s s2 : List Sp}
theorem SAt.ext (h:SAt w B Tb Qb A n c L j A' n' c' s W) (e:Ext W W'):SAt w B Tb Qb A n c L j A' n' c' s W':=
 ⟨h.cur.ext e,h.mv.ext e,e.cell h.box,e.cell h.val,h.sp.ext (keep_span _) e,fun i=>(e.frozen (a:=⟨Qb,i,none⟩) h.lt.2).trans (h.fz i),by have:=e.size;have:=h.lt;omega,h.ne,
  fun i v hv=>h.only i v (by rw[<- e.cell' (a:=⟨Qb,i,none⟩) h.lt.2];exact hv)⟩
theorem SAt.go (h:SAt w B Tb Qb A n c L j A' n' c' s W) {A0:Option Addr} {k:Nat} (h0:CurAt w B A0 n c L k) (m:Mv B i W W') (hi:i<=n):SAt w B Tb Qb A n c L i A' n' c' s W':=by
 have hne:=h.ne;have hlt:=h.lt;have e:Agree (fun b=>b≠B) W W':=m.agree;refine⟨h.cur.mv m hi,h.mv.trans h0 m,e.cell (by show Tb≠B;omega) h.box,e.cell (by show Qb≠B;omega) h.val,h.sp.keep (keep_span _) (e.mono fun b hb=>by have:=hne.2.2.2;omega),fun q=>?_,by have:=m.size;omega,hne,fun q v hv=>?_⟩
 ·have hb:=e Qb (by show Qb≠B;omega) hlt.2;have:=h.fz q;simp only[World.frozen?] at this ⊢;rw[hb];exact this
 ·have hb:=e Qb (by show Qb≠B;omega) hlt.2;refine h.only q v ?_;rw[<- hv];simp only[World.cell?];rw[hb]
theorem SAt.fresh (h:SAt w B Tb Qb A n c L j A' n' c' s W) (hs:SlR rSpan 2 (fun b=>W.heap.size<=b) W' A2 n2 c2 s2):SlR rSpan 2 (fun b=>w.heap.size<=b/\b≠Qb) W' A2 n2 c2 s2:=
 hs.mono (fun _ _ h=>h) (fun b hb=>⟨Nat.le_trans h.mv.size hb,by have:=h.lt.2;omega⟩)
theorem Mv.extQ (m:Mv B j w W) (hq:w.heap.size<=Qb) (o:Nat) (v:Value):Mv B j w (W.setCell ⟨Qb,o,none⟩ v):=Ext.setCell m (p:=⟨Qb,o,none⟩) (by rw[size_set];exact hq) v
theorem SAt.runes (h:SAt w B Tb Qb A n c L j A' n' c' s W):SlR rRune 1 (fun b=>b≠B/\b≠Qb) W A n c L:=by
 have h1:=h.cur.row;refine⟨h1.len,h1.cap,h1.max,fun q x hx=>?_⟩;obtain⟨b,off,vs,e1,hb,hl,hr,hc⟩:=h1.at_ q x hx;refine⟨b,off,vs,e1,⟨hb,?_⟩,hl,hr,hc⟩;intro hb2;subst hb2;have e0:=hc 0 (.int .i32 x) (by rw[hr.1];rfl);have hz:=h.only _ _ e0;have h01:off+q*1+0=0:=by omega
 rw[h01,h.val] at e0;cases e0
theorem SAt.store (h:SAt w B Tb Qb A n c L j A' n' c' s W) (hs:SlR rSpan 2 (fun b=>w.heap.size<=b/\b≠Qb) W A2 n2 c2 s2):SAt w B Tb Qb A n c L j A2 n2 c2 s2 (W.setCell ⟨Qb,0,none⟩ (.slice A2 n2 c2)):=by
 have hne:=h.ne;have hlt:=h.lt;have ag:Agree (fun b=>b≠Qb) W (W.setCell ⟨Qb,0,none⟩ (.slice A2 n2 c2)):=fun b hb _=>heap_setB hb;have hc:=h.cur;have hBQ:B≠Qb:=by omega
 refine⟨⟨ag.cell hBQ hc.c0,ag.cell hBQ hc.c1,fun q=>by rw[World.frozen?_setCell];exact hc.fz q,by rw[size_set];exact hc.lt,(h.runes.keep (keep_rune _) (ag.mono fun _ h=>h.2)).mono (fun _ _ h=>h) (fun _ h=>h.1),hc.nn,hc.le,hc.nb,fun q v hv=>hc.only q v ?_⟩,h.mv.extQ hne.2.1 _ _,ag.cell (by show Tb≠Qb;omega) h.box,
  World.cell?_setCell_same _ _ _ h.val,hs.keep (keep_span _) (ag.mono fun _ h=>h.2),fun q=>by rw[World.frozen?_setCell];exact h.fz q,by rw[size_set];exact hlt,hne,fun q v hv=>?_⟩
 ·rw[World.cell?_setCell_other _ _ _ _ (by intro e;simp only[Addr.mk.injEq] at e;omega)] at hv;exact hv
 ·by_cases hq:q=0
  ·omega
  ·rw[World.cell?_setCell_other _ _ _ _ (by intro e;simp only[Addr.mk.injEq] at e;omega)] at hv;exact h.only q v hv
theorem keep_ok (h:SAt w B Tb Qb A n c L j A' n' c' s W) (hs:SlR rSpan 2 (fun b=>w.heap.size<=b/\b≠Qb) W A2 n2 c2 s2) :
  Calls Tryz.prog 110 #[.slice A2 n2 c2,.int .i64 0,.pointer (some ⟨Tb,0,none⟩),.pointer (some ⟨Qb,0,none⟩)] W fun e w'=>e=.returned (.tuple #[])/\SAt w B Tb Qb A n c L j A2 n2 c2 s2 w':=by
 have ST:=hid (h.store hs);have k0:=h.val;have kz:=h.fz;have kl:=h.lt;have kn:Qb≠W.heap.size:=by omega
 clear h hs;go_enter Tryz.func110,Tryz.ntmps110;go_wp2;go_end0;exact⟨rfl,ST.out⟩
theorem keep_bad (h:SAt w B Tb Qb A n c L j A' n' c' s W) (er:Int) (he:er≠0) (v:Value) :
  Calls Tryz.prog 110 #[v,.int .i64 er,.pointer (some ⟨Tb,0,none⟩),.pointer (some ⟨Qb,0,none⟩)] W fun e w'=>e=.panicked (badC er j)/\w'=W:=by
 have CF:=hid (fun W=>Fail_any er j W);have k0:=h.box;have k1:=h.cur.c1;have kl:=h.lt;have km:=h.cur.lt;have kn:Tb≠W.heap.size:=by omega
 have g:(er != 0)=true:=by simpa using he
 clear h he;go_enter Tryz.func110,Tryz.ntmps110;go_wp2_with (go_at_call 44;((with_reducible refine (CF.out _).mono ?_);rintro e w5 ⟨rfl,rfl⟩));exact⟨rfl,rfl,rfl⟩
end
structure Fam {α :Type} (R:(Nat->Prop)->World->List Value-> α ->Prop):Prop where
 mono:∀ {ok ok':Nat->Prop} {w:World} {vs:List Value} {x: α},(∀ b,ok b->ok' b)->R ok w vs x->R ok' w vs x
 keep:∀ ok,Keep (R ok) ok
 one:∀ ok,One (R ok)
def RowR {α :Type} (R:(Nat->Prop)->World->List Value-> α ->Prop) (e:TypeId) (sz base:Nat) (w:World) (v:Value) (l:List α):Prop:=
 ∃ ok:Nat->Prop,OwnR (R ok) e sz base w v l/\(∀ i,ok i->base<=i/\i<w.heap.size)/\(∀ g,v.ownBlock=some g->¬ ok g)
theorem Mv.grown {w0 w w':World} {B j:Nat} {row:Option Nat} (m:Mv B j w0 w) (hg:w.grownBy w' row) (hr:∀ k,row=some k->w0.heap.size<=k):Mv B j w0 w':=
 Ext.grown m hg (fun k hk=>by rw[size_set];exact hr k hk)
section
variable {α : Type} {R : (Nat -> Prop) -> World -> List Value -> α -> Prop} {e : TypeId} {sz base : Nat} {w w' : World} {v : Value} {l : List α}
theorem RowR.nil (R:(Nat->Prop)->World->List Value-> α ->Prop) (e:TypeId) (sz base:Nat) (w:World):RowR R e sz base w (.slice none 0 0) []:=
 ⟨bot,OwnR.nil _ _ _ _ _,fun i h=>h.elim,fun g hg h=>h⟩
theorem RowR.agree (F:Fam R) (h:RowR R e sz base w v l) (ha:Agree (fun b=>base<=b) w w') (hs:w.heap.size<=w'.heap.size):RowR R e sz base w' v l:=by
 obtain⟨ok,o,h1,h2⟩:=h;exact⟨ok,o.keep (F.keep ok) (ha.mono fun b hb=>(h1 b hb).1) (fun g hg=>ha g (o.lt g hg).1 (o.lt g hg).2),fun i hi=>⟨(h1 i hi).1,Nat.lt_of_lt_of_le (h1 i hi).2 hs⟩,h2⟩
theorem RowR.ext (F:Fam R) (h:RowR R e sz base w v l) (x:Ext w w'):RowR R e sz base w' v l:=h.agree F (x.agree _) x.size
theorem RowR.mv (F:Fam R) (h:RowR R e sz base w v l) {B j:Nat} (m:Mv B j w w') (hB:B<base):RowR R e sz base w' v l:=h.agree F (m.agree.mono fun b hb=>by omega) m.size
theorem RowR.lt (h:RowR R e sz base w v l):∀ g,v.ownBlock=some g->base<=g/\g<w.heap.size:=by
 obtain⟨ok,o,_,_⟩:=h;exact o.lt
theorem RowR.sl (F:Fam R) (h:RowR R e sz base w v l):∃ A c,v=.slice A l.length c/\SlR (R fun b=>base<=b) sz (fun b=>base<=b) w A l.length c l:=by
 obtain⟨ok,o,h1,_⟩:=h;obtain⟨A,c,e,hs⟩:=o.sl;exact⟨A,c,e,hs.mono (fun vs x hx=>F.mono (fun b hb=>(h1 b hb).1) hx) (fun _ h=>h)⟩
theorem RowR.form (h:RowR R e sz base w v l):∃ A c,v=.slice A l.length c:=by
 obtain⟨ok,o,_,_⟩:=h;obtain⟨A,c,e,_⟩:=o.form;exact⟨A,c,e⟩
theorem RowR.grown {w0:World} (x:Ext w0 w) (h:RowR R e sz w0.heap.size w v l) (hg:w.grownBy w' v.ownBlock):Ext w0 w':=x.grown hg (fun k hk=>(h.lt k hk).1)
theorem RowR.mvg {w0:World} {B j:Nat} (m:Mv B j w0 w) (h:RowR R e sz w0.heap.size w v l) (hg:w.grownBy w' v.ownBlock):Mv B j w0 w':=m.grown hg (fun k hk=>(h.lt k hk).1)
theorem RowR.more (F:Fam R) (h:RowR R e sz base w v l) {tk:Nat->Prop} (ht:∀ i,tk i->base<=i/\i<w.heap.size/\∀ g,v.ownBlock=some g->i≠g) :
  ∃ ok:Nat->Prop,OwnR (R ok) e sz base w v l/\(∀ i,tk i->ok i)/\(∀ i,ok i->base<=i/\i<w.heap.size)/\(∀ g,v.ownBlock=some g->¬ ok g):=by
 obtain⟨ok,o,h1,h2⟩:=h;refine⟨fun i=>ok i\/tk i,o.weaken (fun vs x hx=>F.mono (fun b hb=>.inl hb) hx),fun i hi=>.inr hi,fun i hi=>?_,fun g hg hi=>?_⟩
 ·rcases hi with hi | hi
  ·exact h1 i hi
  ·exact⟨(ht i hi).1,(ht i hi).2.1⟩
 ·rcases hi with hi | hi
  ·exact h2 g hg hi
  ·exact (ht g hi).2.2 g hg rfl
theorem RowR.shut {ok:Nat->Prop} {v':Value} {l':List α} (o:OwnR (R ok) e sz base w' v' l') (h1:∀ i,ok i->base<=i/\i<w.heap.size) (h2:∀ g,v.ownBlock=some g->¬ ok g)
  (hg:w.grownBy w' v.ownBlock) (hat:v'.ownBlock=v.ownBlock\/v'.ownBlock=some w.heap.size):RowR R e sz base w' v' l':=by
 refine⟨ok,o,fun i hi=>⟨(h1 i hi).1,Nat.lt_of_lt_of_le (h1 i hi).2 hg.size⟩,fun g hgv hk=>?_⟩;rcases hat with e1 | e1
 ·exact h2 g (e1▸hgv) hk
 ·rw[e1] at hgv;have:=(h1 g hk).2;cases hgv;omega
def Clear (tk:Nat->Prop) (base:Nat) (w:World) (v:Value):Prop:=∀ i,tk i->base<=i/\i<w.heap.size/\∀ g,v.ownBlock=some g->i≠g
theorem Clear.bot (base:Nat) (w:World) (v:Value):Clear bot base w v:=fun i hi=>hi.elim
theorem RowR.clear {w1:World} (h:RowR R e sz base w1 v l) (hb:base<=w1.heap.size) (w:World):Clear (fun b=>w1.heap.size<=b/\b<w.heap.size) base w v:=
 fun i hi=>⟨Nat.le_trans hb hi.1,hi.2,fun g hg=>by have:=(h.lt g hg).2;have:=hi.1;omega⟩
variable {P : Program}
theorem wpList_row (F:Fam R) {t:TypeId} {bytes:Nat} (T:ElemT P t e sz bytes) (hby:bytes<=1000) {ops:Array Oper} {rest:List Oper} {o:Oper} {a:Act} {Q:Exit->Act->World->Prop} (hgd:o.guard=none) (s x:Operand)
  (ho:o.op=.call { callee:=.builtin .append,args:=#[s,x],argTypes:=#[t,t] }) (hs:a.eval s=v) (hown:RowR R e sz base w v l) {A:Option Addr} {m c:Nat} (hx:a.eval x=.slice A m c) {l2:List α} {tk ok2:Nat->Prop}
  (hsrc:SlR (R tk) sz ok2 w A m c l2) (ht:Clear tk base w v) (hb:l.length+m<=60000) (hbase:base<=w.heap.size)
  (h:∀ v' w',RowR R e sz base w' v' (l++l2)->w.grownBy w' v.ownBlock->wpList P ops Q rest (a.put o.dst v') w'):wpList P ops Q (o::rest) a w:=by
 obtain⟨ok,o1,hk,h1,h2⟩:=hown.more F ht;exact wpList_appS T hby hgd s x ho hs o1 hx hsrc (fun vs y hy=>F.mono hk hy) (F.one ok) (F.keep ok) h2 hb hbase fun v' w' o2 hg hat=>h v' w' (RowR.shut o2 h1 h2 hg hat) hg
theorem step_row (F:Fam R) {t:TypeId} {bytes:Nat} (T:ElemT P t e sz bytes) (hby:bytes<=1000) {ops:Array Oper} {o:Oper} {a:Act} {K:Act->World->Prop} {Q:Exit->Act->World->Prop} {E:Prop} (hgd:o.guard=none) (s x:Operand)
  (ho:o.op=.call { callee:=.builtin .append,args:=#[s,x],argTypes:=#[t,t] }) (hs:a.eval s=v) (hown:RowR R e sz base w v l) {A:Option Addr} {m c:Nat} (hx:a.eval x=.slice A m c) {l2:List α} {tk ok2:Nat->Prop}
  (hsrc:SlR (R tk) sz ok2 w A m c l2) (ht:Clear tk base w v) (hb:l.length+m<=60000) (hbase:base<=w.heap.size)
  (h:∀ v' w',RowR R e sz base w' v' (l++l2)->w.grownBy w' v.ownBlock->K (a.put o.dst v') w') :
  if Region.wanted o (yielded ops a.tmps)=true then Oper.wp P o a w K Q else E:=by
 obtain⟨ok,o1,hk,h1,h2⟩:=hown.more F ht;exact step_appS T hby hgd s x ho hs o1 hx hsrc (fun vs y hy=>F.mono hk hy) (F.one ok) (F.keep ok) h2 hb hbase fun v' w' o2 hg hat=>h v' w' (RowR.shut o2 h1 h2 hg hat) hg
end
structure ItA (ok:Nat->Prop) (w:World) (A:Option Addr) (n c:Nat) (x:It):Prop where
 kb:i64 x.kind
 rb:i32 x.rune
 nm:x.name.size<=maxLen
 set:SlR rSpan 2 ok w A n c x.set
def rIt (ok:Nat->Prop):World->List Value->It->Prop:=fun w vs x=>∃ A n c,vs=[.int .i64 x.kind,.int .i32 x.rune,.slice A n c,.string x.name]/\ItA ok w A n c x
theorem ItA.mono {ok ok':Nat->Prop} {w:World} {A:Option Addr} {n c:Nat} {x:It} (h:ItA ok w A n c x) (hk:∀ b,ok b->ok' b):ItA ok' w A n c x:=⟨h.kb,h.rb,h.nm,h.set.mono (fun _ _ h=>h) hk⟩
theorem ItA.keep {ok:Nat->Prop} {w w':World} {A:Option Addr} {n c:Nat} {x:It} (h:ItA ok w A n c x) (ha:Agree ok w w'):ItA ok w' A n c x:=⟨h.kb,h.rb,h.nm,h.set.keep (keep_span _) ha⟩
theorem fam_it:Fam rIt where
 mono:=fun hk ⟨A,n,c,e,h⟩=>⟨A,n,c,e,h.mono hk⟩
 keep:=fun ok w w' vs x ha ⟨A,n,c,e,h⟩=>⟨A,n,c,e,h.keep ha⟩
 one:=fun ok w vs x ⟨A,n,c,e,h⟩ u hu=>by subst e;simp at hu;rcases hu with rfl | rfl | rfl | rfl <;> rfl
abbrev Its (ok:Nat->Prop) (w:World) (A:Option Addr) (n c:Nat) (l:List It):Prop:=SlR (rIt ok) 4 ok w A n c l
theorem Its.keep {ok:Nat->Prop} {w w':World} {A:Option Addr} {n c:Nat} {l:List It} (h:Its ok w A n c l) (ha:Agree ok w w'):Its ok w' A n c l:=SlR.keep (fam_it.keep ok) h ha
theorem Its.mono {ok ok':Nat->Prop} {w:World} {A:Option Addr} {n c:Nat} {l:List It} (h:Its ok w A n c l) (hk:∀ b,ok b->ok' b):Its ok' w A n c l:=SlR.mono h (fun _ _ hx=>fam_it.mono hk hx) hk
theorem Its.ext {ok:Nat->Prop} {w w':World} {A:Option Addr} {n c:Nat} {l:List It} (h:Its ok w A n c l) (e:Ext w w'):Its ok w' A n c l:=Its.keep h (e.agree ok)
theorem Its.mv {w w':World} {B j base:Nat} {A:Option Addr} {n c:Nat} {l:List It} (h:Its (fun b=>base<=b) w A n c l) (m:Mv B j w w') (hB:B<base):Its (fun b=>base<=b) w' A n c l:=Its.keep h (m.agree.mono fun b hb=>by omega)
theorem SlR.it {ok ok2:Nat->Prop} {w:World} {A:Option Addr} {n c k:Nat} {l:List It} {x:It} (h:SlR (rIt ok) 4 ok2 w A n c l) (hx:l[k]? =some x) :
  ∃ b off A' n' c',A=some ⟨b,off,none⟩/\(b<w.heap.size/\b≠w.heap.size)/\ItA ok w A' n' c' x/\w.cell? ⟨b,off+k*4,none⟩=some (.int .i64 x.kind)/\w.cell? ⟨b,off+k*4+1,none⟩=some (.int .i32 x.rune) /\
   w.cell? ⟨b,off+k*4+2,none⟩=some (.slice A' n' c')/\w.cell? ⟨b,off+k*4+3,none⟩=some (.string x.name):=by
 obtain⟨b,off,vs,e,ho,_,⟨A',n',c',rfl,hb⟩,hc⟩:=h.at_ k x hx;have h0:=hc 0 _ rfl;have hlt:b<w.heap.size:=World.block_lt_of_cell? w _ h0;exact⟨b,off,A',n',c',e,⟨hlt,by omega⟩,hb,by simpa using h0,by simpa using hc 1 _ rfl,by simpa using hc 2 _ rfl,by simpa using hc 3 _ rfl⟩
theorem it_one {tk:Nat->Prop} {w:World} {A:Option Addr} {n c:Nat} {x:It} (e:TypeId) (h:ItA tk w A n c x) :
  SlR (rIt tk) 4 top (w.alloc (.cells #[.int .i64 x.kind,.int .i32 x.rune,.slice A n c,.string x.name] e)) (some ⟨w.heap.size,0,none⟩) 1 1 [x]:=
 SlR.fresh rfl (by unfold maxLen;omega) fun k u hu=>by
  match k,hu with
  | 0,hu=>
   cases hu
   exact⟨[.int .i64 x.kind,.int .i32 x.rune,.slice A n c,.string x.name],rfl,⟨A,n,c,rfl,h.keep (((Ext.refl w).alloc _).agree tk)⟩,fun j v hv=>by
    match j,hv with
    | 0,hv=>simpa using hv
    | 1,hv=>simpa using hv
    | 2,hv=>simpa using hv
    | 3,hv=>simpa using hv⟩
structure SdA (ok:Nat->Prop) (w:World) (A1:Option Addr) (n1 c1:Nat) (A2:Option Addr) (n2 c2:Nat) (A3:Option Addr) (n3 c3:Nat) (s:Side):Prop where
 before:Its ok w A1 n1 c1 s.before
 source:Its ok w A2 n2 c2 s.source
 after:Its ok w A3 n3 c3 s.after
 cb:i64 s.cursor
abbrev sdV (A1:Option Addr) (n1 c1:Nat) (A2:Option Addr) (n2 c2:Nat) (A3:Option Addr) (n3 c3:Nat) (s:Side):List Value:=
 [.bool s.st,.bool s.en,.slice A1 n1 c1,.slice A2 n2 c2,.slice A3 n3 c3,.int .i64 s.cursor]
def rSd (ok:Nat->Prop):World->List Value->Side->Prop:=fun w vs s=>∃ A1 n1 c1 A2 n2 c2 A3 n3 c3,vs=sdV A1 n1 c1 A2 n2 c2 A3 n3 c3 s/\SdA ok w A1 n1 c1 A2 n2 c2 A3 n3 c3 s
section
variable {ok ok' : Nat -> Prop} {w w' : World} {A1 A2 A3 : Option Addr} {n1 c1 n2 c2 n3 c3 : Nat} {s : Side}
theorem SdA.mono (h:SdA ok w A1 n1 c1 A2 n2 c2 A3 n3 c3 s) (hk:∀ b,ok b->ok' b):SdA ok' w A1 n1 c1 A2 n2 c2 A3 n3 c3 s:=⟨h.before.mono hk,h.source.mono hk,h.after.mono hk,h.cb⟩
theorem SdA.keep (h:SdA ok w A1 n1 c1 A2 n2 c2 A3 n3 c3 s) (ha:Agree ok w w'):SdA ok w' A1 n1 c1 A2 n2 c2 A3 n3 c3 s:=⟨h.before.keep ha,h.source.keep ha,h.after.keep ha,h.cb⟩
theorem SdA.ext (h:SdA ok w A1 n1 c1 A2 n2 c2 A3 n3 c3 s) (e:Ext w w'):SdA ok w' A1 n1 c1 A2 n2 c2 A3 n3 c3 s:=h.keep (e.agree ok)
end
theorem fam_sd:Fam rSd where
 mono:=fun hk ⟨A1,n1,c1,A2,n2,c2,A3,n3,c3,e,h⟩=>⟨A1,n1,c1,A2,n2,c2,A3,n3,c3,e,h.mono hk⟩
 keep:=fun ok w w' vs x ha ⟨A1,n1,c1,A2,n2,c2,A3,n3,c3,e,h⟩=>⟨A1,n1,c1,A2,n2,c2,A3,n3,c3,e,h.keep ha⟩
 one:=fun ok w vs x ⟨A1,n1,c1,A2,n2,c2,A3,n3,c3,e,h⟩ u hu=>by subst e;simp at hu;rcases hu with rfl | rfl | rfl | rfl | rfl | rfl <;> rfl
structure PtA (ok:Nat->Prop) (w:World) (A:Option Addr) (n c:Nat) (p:Part):Prop where
 kb:i64 p.kind
 db:i64 p.dir
 nm:p.name.size<=maxLen
 set:SlR rSpan 2 ok w A n c p.set
def rPt (ok:Nat->Prop):World->List Value->Part->Prop:=fun w vs p=>
 ∃ A n c vl vr,vs=.int .i64 p.kind:: .string p.name:: .slice A n c:: .int .i64 p.dir::(vl++vr)/\PtA ok w A n c p/\rSd ok w vl p.left/\rSd ok w vr p.right
theorem fam_pt:Fam rPt where
 mono:=fun hk ⟨A,n,c,vl,vr,e,h,h1,h2⟩=>⟨A,n,c,vl,vr,e,⟨h.kb,h.db,h.nm,h.set.mono (fun _ _ h=>h) hk⟩,fam_sd.mono hk h1,fam_sd.mono hk h2⟩
 keep:=fun ok w w' vs x ha ⟨A,n,c,vl,vr,e,h,h1,h2⟩=>⟨A,n,c,vl,vr,e,⟨h.kb,h.db,h.nm,h.set.keep (keep_span _) ha⟩,fam_sd.keep ok _ _ _ _ ha h1,fam_sd.keep ok _ _ _ _ ha h2⟩
 one:=fun ok w vs x ⟨A,n,c,vl,vr,e,h,h1,h2⟩ u hu=>by
  subst e;simp only[List.mem_cons,List.mem_append] at hu;rcases hu with rfl | rfl | rfl | rfl | hu | hu
  ·rfl
  ·rfl
  ·rfl
  ·rfl
  ·exact fam_sd.one ok _ _ _ h1 u hu
  ·exact fam_sd.one ok _ _ _ h2 u hu
abbrev Pts (ok:Nat->Prop) (w:World) (A:Option Addr) (n c:Nat) (l:List Part):Prop:=SlR (rPt ok) 16 ok w A n c l
end Go.Proofs.YthomjcjnalfipaaGreatDoor
