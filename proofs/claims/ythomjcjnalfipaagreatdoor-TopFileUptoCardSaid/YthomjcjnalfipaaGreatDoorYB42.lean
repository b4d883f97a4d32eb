/- A part of the proofs of the Top laws. -/
import Derived.Test.YthomjcjnalfipaaGreatDoorRows
import Derived.ProofKit
import Derived.OpenShut
import Derived.ChangeOld
import Derived.Deep.Fields
import Derived.Test.YthomjcjnalfipaaGreatDoorYB24
set_option linter.all false
namespace Go.Proofs.YthomjcjnalfipaaGreatDoor
open Go.RowKit
theorem partsW0_all:∀ {l:List Part} {i at_:Nat},partsW0 i l=(0,at_)->∀ p∈l,partW p=0
 | [],i,at_,_,p,hp=>by cases hp
 | q::l,i,at_,h,p,hp=>by
  by_cases hz:partW q=0
  ·rw[partsW0_ok hz] at h;rcases List.mem_cons.1 hp with rfl | hp
   ·exact hz
   ·exact partsW0_all h p hp
  ·rw[partsW0_bad hz] at h;exact absurd (Prod.mk.inj h).1 hz
theorem partsW_all {l:List Part} {at_:Nat} (h:partsW l=(0,at_)):l.length<=200/\∀ p∈l,partW p=0:=by
 unfold partsW at h;split at h
 ·cases h
 ·exact⟨by omega,partsW0_all h⟩
theorem itemsW0_all:∀ {l:List It},itemsW0 l=0->∀ x∈l,itemW x=0
 | [],_,x,hx=>by cases hx
 | y::l,h,x,hx=>by
  unfold itemsW0 at h;by_cases hz:itemW y≠0
  ·rw[if_pos hz] at h;exact absurd h hz
  ·rw[if_neg hz] at h;rcases List.mem_cons.1 hx with rfl | hx
   ·exact Decidable.of_not_not hz
   ·exact itemsW0_all h x hx
theorem itemsW_all {l:List It} (h:itemsW l=0):l.length<=20/\∀ x∈l,itemW x=0:=by
 unfold itemsW at h;split at h
 ·cases h
 ·exact⟨by omega,itemsW0_all h⟩
theorem sideW_all {s:Side} {m:Bool} (h:sideW s m=0):itemsW s.before=0/\itemsW s.source=0/\itemsW s.after=0:=by
 by_cases hz:rowsW [s.before,s.source,s.after]=0
 ·by_cases h1:itemsW s.before=0
  ·rw[rowsW_ok h1] at hz;by_cases h2:itemsW s.source=0
   ·rw[rowsW_ok h2] at hz;by_cases h3:itemsW s.after=0
    ·exact⟨h1,h2,h3⟩
    ·rw[rowsW_bad h3] at hz;exact absurd hz h3
   ·rw[rowsW_bad h2] at hz;exact absurd hz h2
  ·rw[rowsW_bad h1] at hz;exact absurd hz h1
 ·rw[sideW_rows hz] at h;exact absurd h hz
theorem wrongSet_len {s:List Sp} (h:wrongSet s=0):s.length<=200:=by
 unfold wrongSet at h;split at h
 ·cases h
 ·omega
theorem itemW_set {x:It} (h:itemW x=0) (hk:x.kind=2):x.set.length<=200:=by
 unfold itemW at h;rw[if_neg (by omega),if_pos hk] at h;exact wrongSet_len h
structure Tame (s:Side):Prop where
 n1:s.before.length<=20
 n2:s.source.length<=20
 n3:s.after.length<=20
 s1:∀ x∈s.before,x.kind=2->x.set.length<=200
 s2:∀ x∈s.source,x.kind=2->x.set.length<=200
 s3:∀ x∈s.after,x.kind=2->x.set.length<=200
theorem tame {s:Side} {m:Bool} (h:sideW s m=0):Tame s:=by
 obtain⟨h1,h2,h3⟩:=sideW_all h;obtain⟨a1,b1⟩:=itemsW_all h1;obtain⟨a2,b2⟩:=itemsW_all h2;obtain⟨a3,b3⟩:=itemsW_all h3;exact⟨a1,a2,a3,fun x hx hk=>itemW_set (b1 x hx) hk,fun x hx hk=>itemW_set (b2 x hx) hk,fun x hx hk=>itemW_set (b3 x hx) hk⟩
theorem partW_rule {p:Part} (h:partW p=0) (hk:p.kind=2):Tame p.left/\Tame p.right:=by
 unfold partW at h;rw[if_neg (by omega),if_neg (by omega),if_neg (by omega),if_pos hk] at h;unfold ruleW at h;split at h
 ·cases h
 ·split at h
  ·rename_i h1;exact absurd h h1
  ·split at h
   ·rename_i h1;exact absurd h h1
   ·rename_i h1 h2;exact⟨tame (Decidable.of_not_not h1),tame (Decidable.of_not_not h2)⟩
theorem partW_set {p:Part} (h:partW p=0) (hk:p.kind=1\/p.kind=3):p.set.length<=200:=by
 unfold partW at h;rcases hk with hk | hk
 ·rw[if_pos hk] at h;split at h
  ·exact wrongSet_len h
  ·cases h
 ·rw[if_neg (by omega),if_pos hk] at h;exact wrongSet_len h
theorem goR_bad {k:Nat} {r:RS} {p:Part} {l:List Part} {e:Int} (h:stepR r p=.inl e):goR k r (p::l)=.inl (e,k):=by
 rw[goR,h]
theorem goR_go {k:Nat} {r r':RS} {p:Part} {l:List Part} (h:stepR r p=.inr r'):goR k r (p::l)=goR (k+1) r' l:=by
 rw[goR,h]
theorem partW_kind {p:Part} (h:partW p=0):p.kind=1\/p.kind=2\/p.kind=3\/p.kind=4:=by
 unfold partW at h;by_cases h1:p.kind=1
 ·exact .inl h1
 ·by_cases h2:p.kind=2
  ·exact .inr (.inl h2)
  ·by_cases h3:p.kind=3
   ·exact .inr (.inr (.inl h3))
   ·by_cases h4:p.kind=4
    ·exact .inr (.inr (.inr h4))
    ·rw[if_neg h1,if_neg h3,if_neg h4,if_neg h2] at h;cases h
end Go.Proofs.YthomjcjnalfipaaGreatDoor
