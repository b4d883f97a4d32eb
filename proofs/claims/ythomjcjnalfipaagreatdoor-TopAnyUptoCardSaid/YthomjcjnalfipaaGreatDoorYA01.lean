/- A part of the proof of rowTopAny.proved. -/
import Derived.Test.YthomjcjnalfipaaGreatDoorYB44
set_option linter.all false
namespace Go.Proofs.YthomjcjnalfipaaGreatDoor
theorem meant_none {s:Script} (h:s.filt=false) (x:Int):meant s x=true:=by unfold meant;rw[h];rfl
theorem goS_all {s s':Script} (hp:s.passes=s'.passes):∀ {r pc out:List Int},(∀ x∈r,meant s x=true)->(∀ x∈r,meant s' x=true)->goS s r pc out=goS s' r pc out
 | [],pc,out,_,_=>by unfold goS flushF lastF;rw[hp]
 | x::r,pc,out,h1,h2=>by
  unfold goS;rw[if_pos (h1 x (by simp)),if_pos (h2 x (by simp))];exact goS_all hp (fun y hy=>h1 y (by simp[hy])) (fun y hy=>h2 y (by simp[hy]))
def allSp:List Sp:=[⟨0,1114111⟩]
theorem any_law {s:Script} {t:List Int} (h:s.filt=false) (hr:t.all right=true):goF { s with filt:=true,only:=allSp } t=goF s t:=by
 have hw:wrongScript { s with filt:=true,only:=allSp }=wrongScript s:=by
  have h1:¬ (true=true/\wrongSet allSp≠0):=by rintro⟨_,h⟩;exact h (by decide)
  have h2:¬ (s.filt=true/\wrongSet s.only≠0):=by rw[h];rintro⟨h,_⟩;cases h
  unfold wrongScript;rw[if_neg h2];show (if true=true/\wrongSet allSp≠0 then (wrongSet allSp,0) else if 60<s.passes.length then ((5:Int),0) else wrongPs 0 s.passes)=_;rw[if_neg h1]
 unfold goF;rw[hw];rw[goS_all (s:={ s with filt:=true,only:=allSp }) (s':=s) rfl (fun x hx=>?_) fun x _=>meant_none h x];have:=List.all_eq_true.1 hr x hx;unfold right at this;simp only[Bool.and_eq_true,decide_eq_true_eq] at this;unfold meant allSp has inSp;simp only[List.any_cons,List.any_nil,Bool.or_false,Bool.not_true,Bool.false_or,Bool.and_eq_true,decide_eq_true_eq];exact this.1
end Go.Proofs.YthomjcjnalfipaaGreatDoor
namespace Go.Proofs.YthomjcjnalfipaaGreatDoor
open Go.RowKit
theorem any_law' {s:Script} (t:List Int) (h:s.filt=false):goF ⟨true,allSp,s.passes⟩ t=goF s t:=by
 by_cases ht:wrongText t=0
 ·have:=any_law (s:=s) (t:=t) h (text_parts ht).2;exact this
 ·have hw:wrongScript ⟨true,allSp,s.passes⟩=wrongScript s:=by
   have h1:¬ (true=true/\wrongSet allSp≠0):=by rintro⟨_,h⟩;exact h (by decide)
   have h2:¬ (s.filt=true/\wrongSet s.only≠0):=by rw[h];rintro⟨h,_⟩;cases h
   unfold wrongScript;rw[if_neg h2];show (if true=true/\wrongSet allSp≠0 then (wrongSet allSp,0) else if 60<s.passes.length then ((5:Int),0) else wrongPs 0 s.passes)=_;rw[if_neg h1]
  unfold goF;rw[hw,if_pos ht,if_pos ht]
theorem allSp_runs {w:World} {b:Nat} (h0:w.cell? ⟨b,0,none⟩=some (.int .i32 0)) (h1:w.cell? ⟨b,1,none⟩=some (.int .i32 1114111)):Spans w (some ⟨b,0,none⟩) 1 1 allSp:=
 ⟨rfl,Nat.le_refl _,by unfold maxLen;omega,fun k x hx=>by
  match k,hx with
  | 0,hx=>
   cases hx
   exact⟨b,0,[.int .i32 0,.int .i32 1114111],rfl,trivial,rfl,⟨rfl,by unfold i32;exact⟨by decide,by decide⟩,by unfold i32;exact⟨by decide,by decide⟩⟩,fun j u hu=>by
    match j,hu with
    | 0,hu=>cases hu;exact h0
    | 1,hu=>cases hu;exact h1⟩⟩
end Go.Proofs.YthomjcjnalfipaaGreatDoor
