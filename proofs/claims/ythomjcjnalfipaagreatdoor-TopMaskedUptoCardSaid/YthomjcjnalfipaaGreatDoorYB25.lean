/- A part of the proofs of the Top laws. -/
import Derived.StillTailTactics
import Derived.Deep.Cut
import Derived.Deep.CutRange
import Derived.Test.YthomjcjnalfipaaGreatDoorRows
import Derived.ProofKit
import Derived.OpenShut
import Derived.ChangeOld
import Derived.Deep.Fields
import Derived.Test.YthomjcjnalfipaaGreatDoorYB21
import Derived.Test.YthomjcjnalfipaaGreatDoorYB24
set_option linter.all false
namespace Go.Proofs.YthomjcjnalfipaaGreatDoor
open Go.RowKit Go.Maps Go.WideMaps Go.ChangeMaps
structure RuV (W:World) (b:Nat) (s1:Bool) (e1:Bool) (A1:Option Addr) (n1 c1:Nat) (A2:Option Addr) (n2 c2:Nat) (A3:Option Addr) (n3 c3:Nat) (A4:Option Addr) (n4 c4:Nat) (q:Int):Prop where
 h0:W.cell? ⟨b,0,none⟩=some (.bool s1)
 h1:W.cell? ⟨b,1,none⟩=some (.bool e1)
 h2:W.cell? ⟨b,2,none⟩=some (.slice A1 n1 c1)
 h3:W.cell? ⟨b,3,none⟩=some (.slice A2 n2 c2)
 h4:W.cell? ⟨b,4,none⟩=some (.slice A3 n3 c3)
 h5:W.cell? ⟨b,5,none⟩=some (.slice A4 n4 c4)
 h6:W.cell? ⟨b,6,none⟩=some (.int .i64 q)
 fz:∀ i,W.frozen? ⟨b,i,none⟩=false
 lt:b<W.heap.size/\b≠W.heap.size
section
variable {W W' w : World} {b b' : Nat} {s1 : Bool} {e1 : Bool} {A1 : Option Addr} {n1 c1 : Nat} {A2 : Option Addr} {n2 c2 : Nat} {A3 : Option Addr} {n3 c3 : Nat} {A4 : Option Addr} {n4 c4 : Nat} {q : Int}
theorem RuV.keep (h:RuV W b s1 e1 A1 n1 c1 A2 n2 c2 A3 n3 c3 A4 n4 c4 q) (hb:W'.heap[b]? =W.heap[b]?) (hs:W.heap.size<=W'.heap.size):RuV W' b s1 e1 A1 n1 c1 A2 n2 c2 A3 n3 c3 A4 n4 c4 q:=
 ⟨(World.cell?_of_block hb).trans h.h0,(World.cell?_of_block hb).trans h.h1,(World.cell?_of_block hb).trans h.h2,(World.cell?_of_block hb).trans h.h3,(World.cell?_of_block hb).trans h.h4,(World.cell?_of_block hb).trans h.h5,(World.cell?_of_block hb).trans h.h6,fun i=>by have:=h.fz i;simp only[World.frozen?] at this ⊢;rw[hb];exact this,by have:=h.lt;omega⟩
theorem RuV.ext (h:RuV W b s1 e1 A1 n1 c1 A2 n2 c2 A3 n3 c3 A4 n4 c4 q) (e:Ext W W'):RuV W' b s1 e1 A1 n1 c1 A2 n2 c2 A3 n3 c3 A4 n4 c4 q:=h.keep (e.block h.lt.1) e.size
theorem RuV.agree (h:RuV W b s1 e1 A1 n1 c1 A2 n2 c2 A3 n3 c3 A4 n4 c4 q) {ok:Nat->Prop} (e:Agree ok W W') (hb:ok b) (hs:W.heap.size<=W'.heap.size):RuV W' b s1 e1 A1 n1 c1 A2 n2 c2 A3 n3 c3 A4 n4 c4 q:=h.keep (e b hb h.lt.1) hs
theorem RuV.off (h:RuV W b s1 e1 A1 n1 c1 A2 n2 c2 A3 n3 c3 A4 n4 c4 q) (hb:b≠b') (o:Nat) (v:Value):RuV (W.setCell ⟨b',o,none⟩ v) b s1 e1 A1 n1 c1 A2 n2 c2 A3 n3 c3 A4 n4 c4 q:=h.keep (heap_setB hb) (by rw[size_set];exact Nat.le_refl _)
theorem RuV.set0 (h:RuV W b s1 e1 A1 n1 c1 A2 n2 c2 A3 n3 c3 A4 n4 c4 q) (X:Bool):RuV (W.setCell ⟨b,0,none⟩ (.bool X)) b X e1 A1 n1 c1 A2 n2 c2 A3 n3 c3 A4 n4 c4 q:=
 ⟨set_same h.h0,set_other h.h1 (by omega),set_other h.h2 (by omega),set_other h.h3 (by omega),set_other h.h4 (by omega),set_other h.h5 (by omega),set_other h.h6 (by omega),fun i=>by rw[World.frozen?_setCell];exact h.fz i,by rw[size_set];exact h.lt⟩
theorem RuV.set1 (h:RuV W b s1 e1 A1 n1 c1 A2 n2 c2 A3 n3 c3 A4 n4 c4 q) (X:Bool):RuV (W.setCell ⟨b,1,none⟩ (.bool X)) b s1 X A1 n1 c1 A2 n2 c2 A3 n3 c3 A4 n4 c4 q:=
 ⟨set_other h.h0 (by omega),set_same h.h1,set_other h.h2 (by omega),set_other h.h3 (by omega),set_other h.h4 (by omega),set_other h.h5 (by omega),set_other h.h6 (by omega),fun i=>by rw[World.frozen?_setCell];exact h.fz i,by rw[size_set];exact h.lt⟩
theorem RuV.set2 (h:RuV W b s1 e1 A1 n1 c1 A2 n2 c2 A3 n3 c3 A4 n4 c4 q) (AX:Option Addr) (nX cX:Nat):RuV (W.setCell ⟨b,2,none⟩ (.slice AX nX cX)) b s1 e1 AX nX cX A2 n2 c2 A3 n3 c3 A4 n4 c4 q:=
 ⟨set_other h.h0 (by omega),set_other h.h1 (by omega),set_same h.h2,set_other h.h3 (by omega),set_other h.h4 (by omega),set_other h.h5 (by omega),set_other h.h6 (by omega),fun i=>by rw[World.frozen?_setCell];exact h.fz i,by rw[size_set];exact h.lt⟩
theorem RuV.set3 (h:RuV W b s1 e1 A1 n1 c1 A2 n2 c2 A3 n3 c3 A4 n4 c4 q) (AX:Option Addr) (nX cX:Nat):RuV (W.setCell ⟨b,3,none⟩ (.slice AX nX cX)) b s1 e1 A1 n1 c1 AX nX cX A3 n3 c3 A4 n4 c4 q:=
 ⟨set_other h.h0 (by omega),set_other h.h1 (by omega),set_other h.h2 (by omega),set_same h.h3,set_other h.h4 (by omega),set_other h.h5 (by omega),set_other h.h6 (by omega),fun i=>by rw[World.frozen?_setCell];exact h.fz i,by rw[size_set];exact h.lt⟩
theorem RuV.set4 (h:RuV W b s1 e1 A1 n1 c1 A2 n2 c2 A3 n3 c3 A4 n4 c4 q) (AX:Option Addr) (nX cX:Nat):RuV (W.setCell ⟨b,4,none⟩ (.slice AX nX cX)) b s1 e1 A1 n1 c1 A2 n2 c2 AX nX cX A4 n4 c4 q:=
 ⟨set_other h.h0 (by omega),set_other h.h1 (by omega),set_other h.h2 (by omega),set_other h.h3 (by omega),set_same h.h4,set_other h.h5 (by omega),set_other h.h6 (by omega),fun i=>by rw[World.frozen?_setCell];exact h.fz i,by rw[size_set];exact h.lt⟩
theorem RuV.set5 (h:RuV W b s1 e1 A1 n1 c1 A2 n2 c2 A3 n3 c3 A4 n4 c4 q) (AX:Option Addr) (nX cX:Nat):RuV (W.setCell ⟨b,5,none⟩ (.slice AX nX cX)) b s1 e1 A1 n1 c1 A2 n2 c2 A3 n3 c3 AX nX cX q:=
 ⟨set_other h.h0 (by omega),set_other h.h1 (by omega),set_other h.h2 (by omega),set_other h.h3 (by omega),set_other h.h4 (by omega),set_same h.h5,set_other h.h6 (by omega),fun i=>by rw[World.frozen?_setCell];exact h.fz i,by rw[size_set];exact h.lt⟩
theorem RuV.set6 (h:RuV W b s1 e1 A1 n1 c1 A2 n2 c2 A3 n3 c3 A4 n4 c4 q) (X:Int):RuV (W.setCell ⟨b,6,none⟩ (.int .i64 X)) b s1 e1 A1 n1 c1 A2 n2 c2 A3 n3 c3 A4 n4 c4 X:=
 ⟨set_other h.h0 (by omega),set_other h.h1 (by omega),set_other h.h2 (by omega),set_other h.h3 (by omega),set_other h.h4 (by omega),set_other h.h5 (by omega),set_same h.h6,fun i=>by rw[World.frozen?_setCell];exact h.fz i,by rw[size_set];exact h.lt⟩
theorem RuV.new (w:World) (s1:Bool) (e1:Bool) (A1:Option Addr) (n1 c1:Nat) (A2:Option Addr) (n2 c2:Nat) (A3:Option Addr) (n3 c3:Nat) (A4:Option Addr) (n4 c4:Nat) (q:Int) (t:TypeId):RuV (w.alloc (.cells #[.bool s1,.bool e1,.slice A1 n1 c1,.slice A2 n2 c2,.slice A3 n3 c3,.slice A4 n4 c4,.int .i64 q] t)) w.heap.size s1 e1 A1 n1 c1 A2 n2 c2 A3 n3 c3 A4 n4 c4 q:=by
 constructor <;> first | exact cell_new _ _ _ _ _ rfl | simp
theorem wpList_store_RuV {s1':Bool} {e1':Bool} {A1':Option Addr} {n1' c1':Nat} {A2':Option Addr} {n2' c2':Nat} {A3':Option Addr} {n3' c3':Nat} {A4':Option Addr} {n4' c4':Nat} {q':Int} {ops:Array Oper} {rest:List Oper} {o:Oper} {a:Act} {Q:Exit->Act->World->Prop} (h:RuV W b s1 e1 A1 n1 c1 A2 n2 c2 A3 n3 c3 A4 n4 c4 q) (hg:o.guard=none) (x v:Operand) (hop:o.op=Op.store 61 x v) (hx:a.eval x=.pointer (some ⟨b,0,none⟩)) (hv:a.eval v=.agg #[.bool s1',.bool e1',.slice A1' n1' c1',.slice A2' n2' c2',.slice A3' n3' c3',.slice A4' n4' c4',.int .i64 q'])
  (hK:∀ wF,RuV wF b s1' e1' A1' n1' c1' A2' n2' c2' A3' n3' c3' A4' n4' c4' q'->Agree (fun i=>i≠b) W wF->W.heap.size=wF.heap.size->(∀ u:World,u.heap.size<=b->Ext u W->Ext u wF)->wpList Tryz.prog ops Q rest (a.put o.dst undef) wF):wpList Tryz.prog ops Q (o::rest) a W:=by
 refine wpList_plain hg fun K' hK'=>?_;have F:=(((((((h.set0 s1').set1 e1').set2 A1' n1' c1').set3 A2' n2' c2').set4 A3' n3' c3').set5 A4' n4' c4').set6 q')
 obtain⟨t0,t1,t2,t3,t4,t5,t6,tz,tl⟩:=h
 have hrun:(Instr.storeAt 61 (.pointer (some ⟨b,0,none⟩)) (.agg #[.bool s1',.bool e1',.slice A1' n1' c1',.slice A2' n2' c2',.slice A3' n3' c3',.slice A4' n4' c4',.int .i64 q'])).run Tryz.prog W=.ok () (((((((W.setCell ⟨b,0,none⟩ (.bool s1')).setCell ⟨b,1,none⟩ (.bool e1')).setCell ⟨b,2,none⟩ (.slice A1' n1' c1')).setCell ⟨b,3,none⟩ (.slice A2' n2' c2')).setCell ⟨b,4,none⟩ (.slice A3' n3' c3')).setCell ⟨b,5,none⟩ (.slice A4' n4' c4')).setCell ⟨b,6,none⟩ (.int .i64 q')):=by
  simp[go_sem,t0,t1,t2,t3,t4,t5,t6,tl,tz]
 unfold Oper.wp;simp[execOp,hop,hx,hv,hrun,Result.andThen];refine hK' _ _ (hK _ F (fun i hi hlt=>?_) ?_ (fun u hu e=>?_))
 ·simp only[heap_setB hi]
 ·simp only[size_set]
 ·exact (((((((e.setCell (p:=⟨b,0,none⟩) hu (.bool s1')).setCell (p:=⟨b,1,none⟩) hu (.bool e1')).setCell (p:=⟨b,2,none⟩) hu (.slice A1' n1' c1')).setCell (p:=⟨b,3,none⟩) hu (.slice A2' n2' c2')).setCell (p:=⟨b,4,none⟩) hu (.slice A3' n3' c3')).setCell (p:=⟨b,5,none⟩) hu (.slice A4' n4' c4')).setCell (p:=⟨b,6,none⟩) hu (.int .i64 q'))
end
theorem Agree.thru {ok:Nat->Prop} {a b c:World} (h:Agree ok a b) (hs:a.heap.size<=b.heap.size) (k:Agree ok b c):Agree ok a c:=fun x ho hx=>(k x ho (Nat.lt_of_lt_of_le hx hs)).trans (h x ho hx)
section
variable {α : Type} {R : (Nat -> Prop) -> World -> List Value -> α -> Prop} {e : TypeId} {sz base base' : Nat} {w w' : World} {v : Value} {l : List α}
theorem RowR.low (h:RowR R e sz base w v l) (hb:base'<=base):RowR R e sz base' w v l:=by
 obtain⟨ok,o,h1,h2⟩:=h;exact⟨ok,o.mono hb,fun i hi=>⟨Nat.le_trans hb (h1 i hi).1,(h1 i hi).2⟩,h2⟩
theorem RowR.offB (F:Fam R) (h:RowR R e sz base w v l) {b:Nat} (hb:b<base) (o:Nat) (x:Value):RowR R e sz base (w.setCell ⟨b,o,none⟩ x) v l:=
 h.agree F ((agree_set b o w x).mono fun i hi=>by omega) (by rw[size_set];exact Nat.le_refl _)
end
theorem SdBox.agree {W W':World} {b:Nat} {st en:Bool} {A1:Option Addr} {n1 c1:Nat} {A2:Option Addr} {n2 c2:Nat} {A3:Option Addr} {n3 c3:Nat} {q:Int} (h:SdBox W b st en A1 n1 c1 A2 n2 c2 A3 n3 c3 q) {ok:Nat->Prop} (e:Agree ok W W') (hb:ok b) (hs:W.heap.size<=W'.heap.size):SdBox W' b st en A1 n1 c1 A2 n2 c2 A3 n3 c3 q:=h.keep (e b hb h.lt.1) hs
theorem RuV.slot {W:World} {b:Nat} {s1 e1:Bool} {A1:Option Addr} {n1 c1:Nat} {A2:Option Addr} {n2 c2:Nat} {A3:Option Addr} {n3 c3:Nat} {A4:Option Addr} {n4 c4:Nat} {q:Int} (h:RuV W b s1 e1 A1 n1 c1 A2 n2 c2 A3 n3 c3 A4 n4 c4 q) {k:Nat} (hk:k<3):∃ A n c,W.cell? ⟨b,2+k,none⟩=some (.slice A n c):=by
 rcases (show k=0\/k=1\/k=2 by omega) with rfl | rfl | rfl
 ·exact⟨_,_,_,h.h2⟩
 ·exact⟨_,_,_,h.h3⟩
 ·exact⟨_,_,_,h.h4⟩
theorem Agree.far {ok:Nat->Prop} {a b c:World} {row:Option Nat} (h:Agree ok a b) (hs:a.heap.size<=b.heap.size) (g:b.grownBy c row) (hr:∀ k,row=some k->a.heap.size<=k):Agree ok a c:=
 fun x ho hx=>(g.block x (Nat.lt_of_lt_of_le hx hs) (fun e=>by have:=hr x e.symm;omega)).trans (h x ho hx)
theorem RowR.slices {base base0:Nat} {w:World} {A:Option Addr} {n c:Nat} {l:List (List Sp)} (h:SetRow base w (.slice A n c) l) (hb:base0<=base):SlR (rSl rSpan 2 (fun b=>base0<=b)) 1 (fun b=>base0<=b) w A n c l:=by
 obtain⟨A',c',e,hs⟩:=h.sl fam_set;cases e;exact hs.mono (fun vs x hx=>fam_set.mono (fun b hb'=>Nat.le_trans hb hb') hx) (fun b hb'=>Nat.le_trans hb hb')
theorem OwnR.runesAt {base base0:Nat} {w:World} {A:Option Addr} {n c:Nat} {l:List Int} (h:OwnR rRune 21 1 base w (.slice A n c) l) (hb:base0<=base):SlR rRune 1 (fun b=>base0<=b) w A n c l:=by
 obtain⟨A',c',e,hs⟩:=h.sl;cases e;exact hs.mono (fun vs x hx=>hx) (fun b hb'=>Nat.le_trans hb hb')
def RulePost (w:World) (T:Option Rule) (e:Ending) (w':World):Prop:=(match T with
 | some r=>∃ vs:List Value,e=.returned (.tuple #[.agg vs.toArray,.bool true])/\rRuleO (fun b=>w.heap.size<=b) w' vs r
 | none=>∃ (s1 e1:Bool) (A1:Option Addr) (n1 c1:Nat) (A2:Option Addr) (n2 c2:Nat) (A3:Option Addr) (n3 c3:Nat) (A4:Option Addr) (n4 c4:Nat) (q:Int),e=.returned (.tuple #[.agg #[.bool s1,.bool e1,.slice A1 n1 c1,.slice A2 n2 c2,.slice A3 n3 c3,.slice A4 n4 c4,.int .i64 q],.bool false]))/\Ext w w'
end Go.Proofs.YthomjcjnalfipaaGreatDoor
namespace Go.Proofs.YthomjcjnalfipaaGreatDoor
open Go.RowKit
theorem keep_intO (ok:Nat->Prop):Keep rInt ok:=fun _ _ _ _ _ h=>h
structure HdA (ok:Nat->Prop) (w:World) (A:Option Addr) (n c:Nat) (x:Hd):Prop where
 lb:i32 x.lo
 hb:i32 x.hi
 rs:SlR rInt 1 ok w A n c x.rules
def rHd (ok:Nat->Prop):World->List Value->Hd->Prop:=fun w vs x=>∃ A n c,vs=[.int .i32 x.lo,.int .i32 x.hi,.slice A n c]/\HdA ok w A n c x
theorem HdA.mono {ok ok':Nat->Prop} {w:World} {A:Option Addr} {n c:Nat} {x:Hd} (h:HdA ok w A n c x) (hk:∀ b,ok b->ok' b):HdA ok' w A n c x:=⟨h.lb,h.hb,h.rs.mono (fun _ _ h=>h) hk⟩
theorem HdA.keep {ok:Nat->Prop} {w w':World} {A:Option Addr} {n c:Nat} {x:Hd} (h:HdA ok w A n c x) (ha:Agree ok w w'):HdA ok w' A n c x:=⟨h.lb,h.hb,h.rs.keep (keep_intO _) ha⟩
theorem fam_hd:Fam rHd where
 mono:=fun hk ⟨A,n,c,e,h⟩=>⟨A,n,c,e,h.mono hk⟩
 keep:=fun ok w w' vs x ha ⟨A,n,c,e,h⟩=>⟨A,n,c,e,h.keep ha⟩
 one:=fun ok w vs x ⟨A,n,c,e,h⟩ u hu=>by subst e;simp at hu;rcases hu with rfl | rfl | rfl <;> rfl
abbrev Hds (ok:Nat->Prop) (w:World) (A:Option Addr) (n c:Nat) (l:List Hd):Prop:=SlR (rHd ok) 3 ok w A n c l
theorem SlR.hd {ok ok2:Nat->Prop} {w:World} {A:Option Addr} {n c k:Nat} {l:List Hd} {x:Hd} (h:SlR (rHd ok) 3 ok2 w A n c l) (hx:l[k]? =some x) :
  ∃ b off A' n' c',A=some ⟨b,off,none⟩/\(b<w.heap.size/\b≠w.heap.size)/\HdA ok w A' n' c' x/\w.cell? ⟨b,off+k*3,none⟩=some (.int .i32 x.lo)/\w.cell? ⟨b,off+k*3+1,none⟩=some (.int .i32 x.hi) /\
   w.cell? ⟨b,off+k*3+2,none⟩=some (.slice A' n' c'):=by
 obtain⟨b,off,vs,e,ho,_,⟨A',n',c',rfl,hb⟩,hc⟩:=h.at_ k x hx;have h0:=hc 0 _ rfl;have hlt:b<w.heap.size:=World.block_lt_of_cell? w _ h0;exact⟨b,off,A',n',c',e,⟨hlt,by omega⟩,hb,by simpa using h0,by simpa using hc 1 _ rfl,by simpa using hc 2 _ rfl⟩
theorem hd_one {tk:Nat->Prop} {w:World} {A:Option Addr} {n c:Nat} {x:Hd} (e:TypeId) (h:HdA tk w A n c x) :
  SlR (rHd tk) 3 top (w.alloc (.cells #[.int .i32 x.lo,.int .i32 x.hi,.slice A n c] e)) (some ⟨w.heap.size,0,none⟩) 1 1 [x]:=
 SlR.fresh rfl (by unfold maxLen;omega) fun k u hu=>by
  match k,hu with
  | 0,hu=>
   cases hu
   exact⟨[.int .i32 x.lo,.int .i32 x.hi,.slice A n c],rfl,⟨A,n,c,rfl,h.keep (((Ext.refl w).alloc _).agree tk)⟩,fun j v hv=>by
    match j,hv with
    | 0,hv=>simpa using hv
    | 1,hv=>simpa using hv
    | 2,hv=>simpa using hv⟩
theorem RowR.setHi {e:TypeId} {base:Nat} {w:World} {m g c:Nat} {o:List Hd} {z:Hd} {v:Int} (h:RowR rHd e 3 base w (.slice (some ⟨g,0,none⟩) m c) (o++[z])) (hv:i32 v) :
  RowR rHd e 3 base (w.setCell ⟨g,o.length*3+1,none⟩ (.int .i32 v)) (.slice (some ⟨g,0,none⟩) m c) (o++[{ z with hi:=v }]):=by
 obtain⟨ok,⟨xs,⟨hl,hcase⟩,he⟩,ho,hng⟩:=h;have hgk:¬ ok g:=hng g rfl;obtain⟨ys,vs,rfl,k1,⟨A,n,q,rfl,k2⟩,k4⟩:=he.snoc_inv;have ky:=k4.len;have hlen:(o++[z]).length=o.length+1:=by simp
 have hlen2:(o++[({ z with hi:=v }:Hd)]).length=o.length+1:=by simp
 have hag:Agree ok w (w.setCell ⟨g,o.length*3+1,none⟩ (.int .i32 v)):=(agree_set g _ w _).mono fun b hb e=>hgk (e▸hb);rw[hlen] at hl hcase;refine⟨ok,?_,fun i hi=>⟨(ho i hi).1,by rw[size_set];exact (ho i hi).2⟩,hng⟩;rcases hcase with ⟨hn,_⟩ | ⟨g',cap,cur,hn,hb,hh,h1,h2,h3,h4⟩
 ·cases hn
 ·simp only[Value.slice.injEq,Option.some.injEq,Addr.mk.injEq,and_true] at hn;obtain⟨rfl,rfl,rfl⟩:=hn;have hw:Enc (rHd ok) 3 (w.setCell ⟨g,o.length*3+1,none⟩ (.int .i32 v)) ys o:=k4.keep (fam_hd.keep ok) hag;refine⟨ys++[.int .i32 z.lo,.int .i32 v,.slice A n q],⟨by rw[hlen2];simp;omega,.inr ⟨g,c,cur.setIfInBounds (o.length*3+1) (.int .i32 v),by rw[hlen2],hb,heap_setRow hh,by rw[hlen2];exact h1,h2,by simpa using h3,?_⟩⟩,?_⟩
  ·rw[Array.toList_setIfInBounds,hlen2,List.take_set,h4,<- ky];simp
  ·exact hw.append (Enc.sing (by rfl) ⟨A,n,q,rfl,⟨k2.lb,hv,(k2.keep hag).rs⟩⟩)
theorem rune_two {w:World} {x y:Int} (e:TypeId) (hx:i32 x) (hy:i32 y):Runes (w.alloc (.cells #[.int .i32 x,.int .i32 y] e)) (some ⟨w.heap.size,0,none⟩) 2 2 [x,y]:=
 SlR.fresh rfl (by unfold maxLen;omega) fun k u hu=>by
  match k,hu with
  | 0,hu=>cases hu;exact⟨[.int .i32 x],rfl,⟨rfl,hx⟩,fun j v hv=>by match j,hv with | 0,hv=>simpa using hv⟩
  | 1,hu=>cases hu;exact⟨[.int .i32 y],rfl,⟨rfl,hy⟩,fun j v hv=>by match j,hv with | 0,hv=>simpa using hv⟩
theorem spEdges_snoc (l:List Sp) (x:Sp):spEdges (l++[x])=spEdges l++[x.lo,x.hi+1]:=by simp[spEdges]
theorem spEdges_len:∀ (l:List Sp),(spEdges l).length=2*l.length
 | []=>rfl
 | x::l=>by
  have:=spEdges_len l;simp only[spEdges,List.flatMap_cons,List.length_append,List.length_cons,List.length_nil] at this ⊢;omega
theorem firstEdges_snoc (l:List Rule) (r:Rule):firstEdges (l++[r])=firstEdges l++spEdges (r.source.headD []):=by simp[firstEdges]
theorem firstEdges_len:∀ (l:List Rule) {m:Nat},(∀ r∈l,(r.source.headD []).length<=m)->(firstEdges l).length<=2*m*l.length
 | [],m,h=>by simp[firstEdges]
 | r::l,m,h=>by
  have h1:=h r (by simp);have h2:=firstEdges_len l fun q hq=>h q (by simp[hq]);have h3:=spEdges_len (r.source.headD []);simp only[firstEdges,List.flatMap_cons,List.length_append,List.length_cons] at h2 ⊢;rw[Nat.mul_succ];omega
theorem insU_len {r:Int}:∀ (l:List Int),(insU r l).length<=l.length+1
 | []=>by simp[insU]
 | x::l=>by
  have:=insU_len (r:=r) l;unfold insU;split
  ·simp
  ·split
   ·simp
   ·simpa using this
theorem upL_len:∀ (l:List Int),(upL l).length<=l.length
 | []=>by simp[upL]
 | x::l=>by
  have h1:=upL_len l;have h2:=insU_len (r:=x) (upL l);show (insU x (upL l)).length<=l.length+1;omega
theorem edgesF_len (l:List Rule):(edgesF l).length<=(0::firstEdges l).length:=upL_len _
structure HdV (W:World) (b:Nat) (lo:Int) (hi:Int) (A1:Option Addr) (n1 c1:Nat):Prop where
 h0:W.cell? ⟨b,0,none⟩=some (.int .i32 lo)
 h1:W.cell? ⟨b,1,none⟩=some (.int .i32 hi)
 h2:W.cell? ⟨b,2,none⟩=some (.slice A1 n1 c1)
 fz:∀ i,W.frozen? ⟨b,i,none⟩=false
 lt:b<W.heap.size/\b≠W.heap.size
section
variable {W W' w : World} {b b' : Nat} {lo : Int} {hi : Int} {A1 : Option Addr} {n1 c1 : Nat}
theorem HdV.keep (h:HdV W b lo hi A1 n1 c1) (hb:W'.heap[b]? =W.heap[b]?) (hs:W.heap.size<=W'.heap.size):HdV W' b lo hi A1 n1 c1:=
 ⟨(World.cell?_of_block hb).trans h.h0,(World.cell?_of_block hb).trans h.h1,(World.cell?_of_block hb).trans h.h2,fun i=>by have:=h.fz i;simp only[World.frozen?] at this ⊢;rw[hb];exact this,by have:=h.lt;omega⟩
theorem HdV.ext (h:HdV W b lo hi A1 n1 c1) (e:Ext W W'):HdV W' b lo hi A1 n1 c1:=h.keep (e.block h.lt.1) e.size
theorem HdV.set2 (h:HdV W b lo hi A1 n1 c1) (AX:Option Addr) (nX cX:Nat):HdV (W.setCell ⟨b,2,none⟩ (.slice AX nX cX)) b lo hi AX nX cX:=
 ⟨set_other h.h0 (by omega),set_other h.h1 (by omega),set_same h.h2,fun i=>by rw[World.frozen?_setCell];exact h.fz i,by rw[size_set];exact h.lt⟩
theorem HdV.new (w:World) (lo:Int) (hi:Int) (A1:Option Addr) (n1 c1:Nat) (t:TypeId):HdV (w.alloc (.cells #[.int .i32 lo,.int .i32 hi,.slice A1 n1 c1] t)) w.heap.size lo hi A1 n1 c1:=by
 constructor <;> first | exact cell_new _ _ _ _ _ rfl | simp
end
theorem rulesAt_snoc {e:Int}:∀ (l:List Rule) (k:Nat) (r:Rule),rulesAt k (l++[r]) e=rulesAt k l e++(if has (r.source.headD []) e then [((k+l.length:Nat):Int)] else [])
 | [],k,r=>by
  show rulesAt k [r] e=_;unfold rulesAt;cases has (r.source.headD []) e <;> simp[rulesAt]
 | q::l,k,r=>by
  have ih:=rulesAt_snoc (e:=e) l (k+1) r;show rulesAt k (q::(l++[r])) e=_;have hk:k+1+l.length=k+(q::l).length:=by simp;omega
  rw[hk] at ih
  conv=>lhs;unfold rulesAt
  conv=>rhs;unfold rulesAt
  rw[ih];split <;> simp
theorem rulesAt_len {e:Int}:∀ (l:List Rule) (k:Nat),(rulesAt k l e).length<=l.length
 | [],k=>by simp[rulesAt]
 | q::l,k=>by
  have ih:=rulesAt_len (e:=e) l (k+1);unfold rulesAt;split <;> simp <;> omega
theorem OwnR.offI {e:TypeId} {base:Nat} {w:World} {v:Value} {l:List Int} (h:OwnR rInt e 1 base w v l) {b:Nat} (hb:b<base) (o:Nat) (x:Value):OwnR rInt e 1 base (w.setCell ⟨b,o,none⟩ x) v l:=
 h.keep (keep_intO bot) (fun _ hb=>hb.elim) fun g hg=>heap_setB (by have:=(h.lt g hg).1;omega)
theorem T_hd:ElemT Tryz.prog 165 208 3 32:=elemT Tryz.underlying165 (z:=.agg #[.int .i32 0,.int .i32 0,.slice none 0 0]) (by kernel_rfl) rfl (by omega)
theorem RowR.headAt {e:TypeId} {base:Nat} {w:World} {A:Option Addr} {n c:Nat} {o:List Hd} {z:Hd} (h:RowR rHd e 3 base w (.slice A n c) (o++[z])):∃ g,A=some ⟨g,0,none⟩/\n=o.length+1/\base<=g:=by
 obtain⟨ok,ho,_⟩:=h;obtain⟨g,rfl,hn⟩:=ho.head;exact⟨g,rfl,hn,(ho.lt g rfl).1⟩
theorem wpList_rowB {α :Type} {R:(Nat->Prop)->World->List Value-> α ->Prop} {e:TypeId} {sz base:Nat} {w:World} {v:Value} {l:List α} {P:Program} (F:Fam R) {t:TypeId} {bytes:Nat} (T:ElemT P t e sz bytes) {ops:Array Oper} {rest:List Oper} {o:Oper} {a:Act} {Q:Exit->Act->World->Prop} (hgd:o.guard=none) (s x:Operand)
  (ho:o.op=.call { callee:=.builtin .append,args:=#[s,x],argTypes:=#[t,t] }) (hs:a.eval s=v) (hown:RowR R e sz base w v l) {A:Option Addr} {m c:Nat} (hx:a.eval x=.slice A m c) {l2:List α} {tk ok2:Nat->Prop}
  (hsrc:SlR (R tk) sz ok2 w A m c l2) (ht:Clear tk base w v) (hb:(l.length+m)*bytes<=140737488355328) (h63:l.length+m<=maxLen) (hbase:base<=w.heap.size)
  (h:∀ v' w',RowR R e sz base w' v' (l++l2)->w.grownBy w' v.ownBlock->wpList P ops Q rest (a.put o.dst v') w'):wpList P ops Q (o::rest) a w:=by
 obtain⟨ok,o1,hk,h1,h2⟩:=hown.more F ht;exact wpList_app T hgd s x ho hs o1 hx hsrc (fun vs y hy=>F.mono hk hy) (F.one ok) (F.keep ok) h2 hb h63 hbase fun v' w' o2 hg hat=>h v' w' (RowR.shut o2 h1 h2 hg hat) hg
theorem addH_length (o:List Hd) (h:Hd):(addH o h).length<=o.length+1:=by
 rcases List.eq_nil_or_concat o with rfl | ⟨o',p,rfl⟩
 ·simp[addH]
 ·rw[List.concat_eq_append,addH_last];split <;> simp
end Go.Proofs.YthomjcjnalfipaaGreatDoor
