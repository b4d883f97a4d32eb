/- A part of the proofs of the Top laws. -/
import Derived.Laws.CopyOwn
import Derived.Test.YthomjcjnalfipaaGreatDoorProg
import Derived.RegionTactic
import Derived.Deep.OwnRows
import Derived.Deep.RegionLaw
import Derived.Test.YthomjcjnalfipaaGreatDoorRows
import Derived.ProofKit
import Derived.OpenShut
import Derived.ChangeOld
import Derived.Deep.Fields
import Derived.Test.YthomjcjnalfipaaGreatDoorYB02
set_option linter.all false
set_option maxHeartbeats 1000000
open Go.Lib (hid)
namespace Go.Proofs.YthomjcjnalfipaaGreatDoor
open Go.RowKit
structure Aside (So:Nat->Prop) (w w':World):Prop where
 os:w'.os=w.os
 tape:w'.tape=w.tape
 output:w'.output=w.output
 size:w.heap.size<=w'.heap.size
 block:∀ b,b<w.heap.size->¬ So b->w'.heap[b]? =w.heap[b]?
section
variable {So : Nat -> Prop} {a w w' : World}
theorem Aside.refl (So:Nat->Prop) (w:World):Aside So w w:=⟨rfl,rfl,rfl,Nat.le_refl _,fun _ _ _=>rfl⟩
theorem Aside.trans {b c:World} (h:Aside So a b) (k:Aside So b c):Aside So a c:=⟨k.os.trans h.os,k.tape.trans h.tape,k.output.trans h.output,Nat.le_trans h.size k.size,fun b hb hn=>(k.block b (Nat.lt_of_lt_of_le hb h.size) hn).trans (h.block b hb hn)⟩
theorem Aside.drew (h:Aside So a w):Aside So a w.drew:=⟨h.os,h.tape,h.output,h.size,h.block⟩
theorem Aside.drewN (h:Aside So a w) (n:Nat):Aside So a (w.drewN n):=⟨h.os,h.tape,h.output,h.size,h.block⟩
theorem Aside.setCell (h:Aside So a w) {p:Addr} (hp:So p.block) (u:Value):Aside So a (w.setCell p u):=
 ⟨h.os,h.tape,h.output,by simpa [World.setCell] using h.size,fun b hb hn=>(Below.heap_setCell w p u b (fun e=>hn (e▸hp))).trans (h.block b hb hn)⟩
theorem Below.side {B:Nat} (h:Below B w w') (hS:∀ b,B<=b->So b):Aside So w w':=⟨h.os,h.tape,h.output,h.size,fun b hb hn=>h.block b (Nat.lt_of_not_le fun hB=>hn (hS b hB))⟩
theorem Aside.ofExt (h:Ext w w'):Aside So w w':=⟨h.os,h.tape,h.output,Ext.size h,fun b hb _=>Ext.block h hb⟩
theorem Aside.of1 {B g:Nat} (h:Below B w w') (ho:∀ k,k≠g->w'.heap[k]? =w.heap[k]?) (hg:So g):Aside So w w':=⟨h.os,h.tape,h.output,h.size,fun b _ hn=>ho b fun e=>hn (e▸hg)⟩
theorem Aside.mono {So':Nat->Prop} (h:Aside So w w') (hk:∀ b,So b->So' b):Aside So' w w':=⟨h.os,h.tape,h.output,h.size,fun b hb hn=>h.block b hb fun hs=>hn (hk b hs)⟩
end
def cellsOf (L:List Int):List Value:=L.map (Value.int .i32)
theorem cellsOf_len (L:List Int):(cellsOf L).length=L.length:=by simp[cellsOf]
theorem cellsOf_get {L:List Int} {j:Nat} {x:Int} (h:L[j]? =some x):(cellsOf L)[j]? =some (.int .i32 x):=by simp[cellsOf,h]
structure BufB (w:World) (pb ab:Nat) (L:List Int) (fr to:Nat):Prop where
 hp:w.heap[pb]? =some (.cells #[.slice (some ⟨ab,0,none⟩) L.length L.length,.int .i64 (fr:Nat),.int .i64 (to:Nat)] 211 (0,0))
 ha:w.heap[ab]? =some (.cells (cellsOf L).toArray 21 (0,0))
 ok:∀ x∈L,i32 x
 le:fr<=to
 le':to<=L.length
 max:L.length<=12000
section
variable {w w' : World} {pb ab : Nat} {L : List Int} {fr to : Nat}
theorem BufB.ne (h:BufB w pb ab L fr to):pb≠ab:=fun e=>by
 have h1:=h.hp;have h2:=h.ha;rw[e,h2] at h1;simp at h1
theorem BufB.ltp (h:BufB w pb ab L fr to):pb<w.heap.size:=(Array.getElem?_eq_some_iff.1 h.hp).1
theorem BufB.lta (h:BufB w pb ab L fr to):ab<w.heap.size:=(Array.getElem?_eq_some_iff.1 h.ha).1
theorem BufB.c0 (h:BufB w pb ab L fr to):w.cell? ⟨pb,0,none⟩=some (.slice (some ⟨ab,0,none⟩) L.length L.length):=by rw[cell_of_row _ _ _ _ _ _ h.hp];rfl
theorem BufB.c1 (h:BufB w pb ab L fr to):w.cell? ⟨pb,1,none⟩=some (.int .i64 (fr:Nat)):=by rw[cell_of_row _ _ _ _ _ _ h.hp];rfl
theorem BufB.c2 (h:BufB w pb ab L fr to):w.cell? ⟨pb,2,none⟩=some (.int .i64 (to:Nat)):=by rw[cell_of_row _ _ _ _ _ _ h.hp];rfl
theorem BufB.fp (h:BufB w pb ab L fr to) (i:Nat):w.frozen? ⟨pb,i,none⟩=false:=by simp[World.frozen?,h.hp]
theorem BufB.fa (h:BufB w pb ab L fr to) (i:Nat):w.frozen? ⟨ab,i,none⟩=false:=by simp[World.frozen?,h.ha]
theorem BufB.ca (h:BufB w pb ab L fr to) {j:Nat} {x:Int} (hx:L[j]? =some x):w.cell? ⟨ab,j,none⟩=some (.int .i32 x):=by
 rw[cell_of_row _ _ _ _ _ _ h.ha];simpa using cellsOf_get hx
theorem BufB.sl (h:BufB w pb ab L fr to):Runes w (some ⟨ab,0,none⟩) L.length L.length L:=
 ⟨rfl,Nat.le_refl _,by have:=h.max;unfold maxLen;omega,fun k x hx=>⟨ab,0,_,rfl,trivial,rfl,⟨rfl,h.ok x (List.mem_of_getElem? hx)⟩,fun j u hu=>by
  match j,hu with
  | 0,hu=>simp at hu;subst hu;simpa using h.ca hx⟩⟩
theorem BufB.keep (h:BufB w pb ab L fr to) (h1:w'.heap[pb]? =w.heap[pb]?) (h2:w'.heap[ab]? =w.heap[ab]?):BufB w' pb ab L fr to:=⟨h1.trans h.hp,h2.trans h.ha,h.ok,h.le,h.le',h.max⟩
theorem BufB.ext (h:BufB w pb ab L fr to) (e:Ext w w'):BufB w' pb ab L fr to:=h.keep (e.block h.ltp) (e.block h.lta)
theorem BufB.setFr (h:BufB w pb ab L fr to) {f:Nat} (hf:f<=to):BufB (w.setCell ⟨pb,1,none⟩ (.int .i64 (f:Nat))) pb ab L f to:=by
 have e:=setCell_eq_setRow w pb 1 _ _ (0,0) (.int .i64 (f:Nat)) h.hp;refine⟨?_,?_,h.ok,hf,h.le',h.max⟩
 ·rw[e,setRow_heap w pb _ _ _ _ h.hp];simp
 ·rw[e,setRow_other w pb ab _ (Ne.symm h.ne)];exact h.ha
theorem BufB.setTo (h:BufB w pb ab L fr to) {t:Nat} (hf:fr<=t) (ht:t<=L.length):BufB (w.setCell ⟨pb,2,none⟩ (.int .i64 (t:Nat))) pb ab L fr t:=by
 have e:=setCell_eq_setRow w pb 2 _ _ (0,0) (.int .i64 (t:Nat)) h.hp;refine⟨?_,?_,h.ok,hf,ht,h.max⟩
 ·rw[e,setRow_heap w pb _ _ _ _ h.hp];simp
 ·rw[e,setRow_other w pb ab _ (Ne.symm h.ne)];exact h.ha
theorem BufB.setBoth (h:BufB w pb ab L fr to) {f t:Nat} (hf:f<=t) (ht:t<=L.length):BufB ((w.setCell ⟨pb,1,none⟩ (.int .i64 (f:Nat))).setCell ⟨pb,2,none⟩ (.int .i64 (t:Nat))) pb ab L f t:=by
 have e:=setCell_eq_setRow w pb 1 _ _ (0,0) (.int .i64 (f:Nat)) h.hp
 have h1:(w.setCell ⟨pb,1,none⟩ (.int .i64 (f:Nat))).heap[pb]? =some (.cells #[.slice (some ⟨ab,0,none⟩) L.length L.length,.int .i64 (f:Nat),.int .i64 (to:Nat)] 211 (0,0)):=by
  rw[e,setRow_heap w pb _ _ _ _ h.hp];simp
 have h2:(w.setCell ⟨pb,1,none⟩ (.int .i64 (f:Nat))).heap[ab]? =some (.cells (cellsOf L).toArray 21 (0,0)):=by
  rw[e,setRow_other w pb ab _ (Ne.symm h.ne)];exact h.ha
 generalize w.setCell ⟨pb,1,none⟩ (.int .i64 (f:Nat))=w' at *;have e2:=setCell_eq_setRow w' pb 2 _ _ (0,0) (.int .i64 (t:Nat)) h1;refine⟨?_,?_,h.ok,hf,ht,h.max⟩
 ·rw[e2,setRow_heap w' pb _ _ _ _ h1];simp
 ·rw[e2,setRow_other w' pb ab _ (Ne.symm h.ne)];exact h2
theorem cellsOf_set (L:List Int) (j:Nat) (x:Int):cellsOf (L.set j x)=(cellsOf L).set j (.int .i32 x):=by simp[cellsOf,List.map_set]
theorem BufB.setAt (h:BufB w pb ab L fr to) (j:Nat) {x:Int} (hx:i32 x):BufB (w.setCell ⟨ab,j,none⟩ (.int .i32 x)) pb ab (L.set j x) fr to:=by
 have e:=setCell_eq_setRow w ab j _ _ (0,0) (.int .i32 x) h.ha;refine⟨?_,?_,?_,h.le,by simpa using h.le',by simpa using h.max⟩
 ·rw[e,setRow_other w ab pb _ h.ne,h.hp];simp
 ·rw[e,setRow_heap w ab _ _ _ _ h.ha,cellsOf_set];simp
 ·intro y hy;rcases List.mem_or_eq_of_mem_set hy with hy | hy
  ·exact h.ok y hy
  ·rw[hy];exact hx
end
def Buf (So:Nat->Prop) (w:World) (pb:Nat) (t:List Int) (at_:Nat):Prop:=
 ∃ ab L to,BufB w pb ab L at_ to/\So pb/\So ab/\t=L.take at_++L.drop to
theorem Buf.len {So:Nat->Prop} {w:World} {pb:Nat} {t:List Int} {at_ ab to:Nat} {L:List Int} (h:BufB w pb ab L at_ to) (e:t=L.take at_++L.drop to):t.length+(to-at_)=L.length/\at_<=t.length:=by
 have h1:=h.le;have h2:=h.le';rw[e];simp only[List.length_append,List.length_take,List.length_drop];omega
end Go.Proofs.YthomjcjnalfipaaGreatDoor
namespace Go.Proofs.YthomjcjnalfipaaGreatDoor
open Go.RowKit
theorem gLen_any {w:World} {pb ab:Nat} {L:List Int} {fr to:Nat} (h:BufB w pb ab L fr to) :
  Calls Tryz.prog 102 #[.pointer (some ⟨pb,0,none⟩)] w fun e w'=>e=.returned (.int .i64 ((L.length-(to-fr):Nat):Int))/\∃ n,w'=w.drewN n:=by
 have h0:=h.c0;have h1:=h.c1;have h2:=h.c2;have l1:=h.le;have l2:=h.le';have l3:=h.max;go_enter Tryz.func102,Tryz.ntmps102;go_wp2;go_quiet (fail);go_wp2;go_ret;refine⟨?_,_,rfl⟩;go_num
theorem gAt_any {w:World} {pb ab:Nat} {L:List Int} {fr to:Nat} (h:BufB w pb ab L fr to) :
  Calls Tryz.prog 101 #[.pointer (some ⟨pb,0,none⟩)] w fun e w'=>e=.returned (.int .i64 (fr:Nat))/\w'=w:=by
 have h1:=h.c1;go_enter Tryz.func101,Tryz.ntmps101;go_wp2;go_ret;exact⟨rfl,rfl⟩
theorem gDel_any {So:Nat->Prop} {w:World} {pb:Nat} {t:List Int} {at_:Nat} (h:Buf So w pb t at_) (n:Nat) (hn:n<=t.length-at_) :
  Calls Tryz.prog 139 #[.pointer (some ⟨pb,0,none⟩),.int .i64 (n:Nat)] w fun e w'=>e=.returned (.tuple #[])/\Aside So w w'/\Buf So w' pb (t.take at_++t.drop (at_+n)) at_:=by
 obtain⟨ab,L,to,h,b1,b2,e⟩:=h;have h0:=h.c0;have h1:=h.c1;have h2:=h.c2;have l1:=h.le;have l2:=h.le';have l3:=h.max;have hlen:=Buf.len (So:=So) h e;have f:=h.fp;have h':=h.setTo (t:=to+n) (by omega) (by omega)
 have fin:Buf So (w.setCell ⟨pb,2,none⟩ (.int .i64 ((to+n:Nat):Int))) pb (t.take at_++t.drop (at_+n)) at_:=by
  refine⟨ab,L,to+n,h',b1,b2,?_⟩;have hl:(L.take at_).length=at_:=by simp;omega
  rw[e];congr 1
  ·rw[List.take_append_of_le_length (by omega),List.take_of_length_le (by omega)]
  ·rw[List.drop_append,List.drop_of_length_le (by omega),List.nil_append,List.drop_drop];congr 1;omega
 have bel:Aside So w (w.setCell ⟨pb,2,none⟩ (.int .i64 ((to+n:Nat):Int))):=Aside.setCell (Aside.refl _ _) b1 _;have F:=hid fin;have B:=hid bel;clear fin bel h h';go_enter Tryz.func139,Tryz.ntmps139;go_wp2;go_end0;exact⟨rfl,B.out,F.out⟩
end Go.Proofs.YthomjcjnalfipaaGreatDoor
namespace Go.Proofs.YthomjcjnalfipaaGreatDoor
open Go.RowKit
theorem infoRune:(Tryz.prog.info? 21).map (fun i=>(i.zero,i.size,i.bytes))=some (some (.int .i32 0),1,4):=by kernel_rfl
theorem sizeRune:(Tryz.prog.info? 21).map (·.size)=some 1:=by kernel_rfl
theorem tRunes:ElemT Tryz.prog 31 21 1 4:=elemT Tryz.underlying31 infoRune rfl (by omega)
theorem zeros_cells (n:Nat):madeCells #[Value.int .i32 0] n=(cellsOf (List.replicate n 0)).toArray:=by
 apply Array.ext
 ·simp[cellsOf,size_madeCells]
 ·intro i h1 h2;simp[madeCells,cellsOf,Nat.mod_one]
theorem make_runes (n:Nat) (hn:n<=60000) (W:World):(Instr.makeSlice 31 (.int .i64 (n:Int)) (.int .i64 (n:Int))).run Tryz.prog W=.ok (.slice (some ⟨W.heap.size,0,none⟩) n n) (W.alloc (.cells (cellsOf (List.replicate n 0)).toArray 21)):=by
 rw[<- zeros_cells];exact run_make_row' (P:=Tryz.prog) _ _ _ _ Tryz.underlying31 infoRune rfl .i64 .i64 n (by omega) (by omega) W
theorem cellsOf_splice (L M:List Int) (off:Nat):splice (cellsOf L) off (cellsOf M)=cellsOf (splice L off M):=by
 simp[splice,cellsOf,List.map_take,List.map_drop]
theorem splice_len (L M:List Int) (off:Nat) (h:off+M.length<=L.length):(splice L off M).length=L.length:=length_splice L off M h
theorem splice_mem {L M:List Int} {off:Nat} {x:Int} (h:x∈splice L off M):x∈L\/x∈M:=by
 unfold splice at h;simp only[List.mem_append] at h;rcases h with h | h | h
 ·exact .inl (List.mem_of_mem_take h)
 ·exact .inr h
 ·exact .inl (List.mem_of_mem_drop h)
theorem step_copyR {P:Program} {ops:Array Oper} {o:Oper} {a:Act} {w:World} {K:Act->World->Prop} {Q:Exit->Act->World->Prop} {E:Prop} (hgd:o.guard=none) (d s:Operand) (dT sT:TypeId)
  (ho:o.op=.call { callee:=.builtin .copy,args:=#[d,s],argTypes:=#[dT,sT] }) (elem:TypeId) (hu:P.underlying dT=some (.slice elem)) (hsz:(P.info? elem).map (·.size)=some 1)
  (dp sp:Option Addr) (dLen dCap m sc:Nat) (hd:a.eval d=.slice dp dLen dCap) (hs:a.eval s=.slice sp m sc) {M:List Int} (hsrc:Runes w sp m sc M) (hm:m<=dLen)
  (g off:Nat) (L:List Int) (t:TypeId) (hg:w.heap[g]? =some (.cells (cellsOf L).toArray t (0,0))) (hp:0<m->dp=some ⟨g,off,none⟩) (hfit:off+m<=L.length)
  (h:∀ w',Hid (w'.heap[g]? =some (.cells (cellsOf (splice L off M)).toArray t (0,0)))->Below g w w'->Hid (∀ k,k≠g->w'.heap[k]? =w.heap[k]?)->K (a.put o.dst (.int .i64 (m:Nat))) w') :
  if Region.wanted o (yielded ops a.tmps)=true then Oper.wp P o a w K Q else E:=by
 have hw:Region.wanted o (yielded ops a.tmps)=true:=by simp[Region.wanted,hgd]
 rw[if_pos hw];have hM:=hsrc.len;have hmin:(cellsOf M).length=Nat.min m dLen:=by rw[cellsOf_len,hM];exact (Nat.min_eq_left hm).symm
 by_cases h0:m=0
 ·subst h0;obtain rfl:M=[]:=List.eq_nil_of_length_eq_zero hM;have hrun:=run_copy_none (P:=P) w dT sT o.type elem dp sp dLen dCap 0 sc hu hsz (by simp);unfold Oper.wp;simp[execOp,ho,resolve,invoke,builtin,hd,hs,hrun,Result.andThen];exact h w (show _=_ by simpa [splice] using hg) (Below.refl _ _) (fun _ _=>rfl)
 ·obtain rfl:=hp (by omega);obtain⟨x0,hx0⟩:=hsrc.idx (k:=0) (by omega);obtain⟨b,o',rfl,_⟩:=hsrc.rune hx0
  have hcs:∀ j v,(cellsOf M)[j]? =some v->w.cell? ((⟨b,o',none⟩:Addr).add j)=some v:=fun j v hv=>by
   simp only[cellsOf,List.getElem?_map,Option.map_eq_some_iff] at hv;obtain⟨x,hx,rfl⟩:=hv;obtain⟨b1,o1,e1,_,hc,_⟩:=hsrc.rune hx;simp only[Option.some.injEq,Addr.mk.injEq,and_true] at e1;obtain⟨rfl,rfl⟩:=e1;rw[addr_add];exact hc
  have hrun:=run_copy_row (P:=P) w dT sT o.type elem g off dLen dCap ⟨b,o',none⟩ m sc (cellsOf L).toArray t (cellsOf M) hu hsz hg hmin hcs (by simpa [cellsOf_len,hM] using hfit) (fun v hv=>by
   simp only[cellsOf,List.mem_map] at hv;obtain⟨x,_,rfl⟩:=hv
   rfl)
  rw[cellsOf_len,hM] at hrun;unfold Oper.wp;simp[execOp,ho,resolve,invoke,builtin,hd,hs,hrun,Result.andThen];refine h _ (show _=_ from ?_) (below_setRow (Below.refl _ _) (Nat.le_refl _) _) (fun k hk=>setRow_other w g k _ hk);rw[setRow_heap w g _ _ t _ hg,<- cellsOf_splice];simp[splice,cellsOf_len,hM]
theorem BufB.spliced {w w':World} {pb ab:Nat} {L M:List Int} {fr to off:Nat} (h:BufB w pb ab L fr to) (hfit:off+M.length<=L.length) (hM:∀ x∈M,i32 x)
  (hg:w'.heap[ab]? =some (.cells (cellsOf (splice L off M)).toArray 21 (0,0))) (ho:∀ k,k≠ab->w'.heap[k]? =w.heap[k]?):BufB w' pb ab (splice L off M) fr to:=
 ⟨by rw[ho pb h.ne,h.hp,splice_len L M off hfit],hg,fun x hx=>(splice_mem hx).elim (h.ok x) (hM x),h.le,by rw[splice_len L M off hfit];exact h.le',by rw[splice_len L M off hfit];exact h.max⟩
theorem Runes.ok {w:World} {A:Option Addr} {n c:Nat} {l:List Int} (s:Runes w A n c l):∀ x∈l,i32 x:=fun x hx=>by
 obtain⟨k,hk,e⟩:=List.getElem_of_mem hx;obtain⟨_,_,_,_,_,hb⟩:=SlR.rune s (k:=k) (x:=x) (by rw[List.getElem?_eq_getElem hk,e]);exact hb
theorem gNew_any {w:World} {A:Option Addr} {n c:Nat} {l:List Int} (s:Runes w A n c l) (hn:n<=4000) :
  Calls Tryz.prog 100 #[.slice A n c] w fun e w'=>∃ pb,e=.returned (.pointer (some ⟨pb,0,none⟩))/\Ext w w'/\Buf (fun b=>w.heap.size<=b) w' pb l 0:=by
 have hl:=s.len;have hmk:=make_runes (n+16) (by omega);rw[show ((n+16:Nat):Int)=(n:Int)+16 by omega] at hmk;have hcut:∀ W,(Instr.sliceAt 31 (.slice (some ⟨w.heap.size,0,none⟩) (n+16) (n+16)) (some (.int .i64 16)) none none).run Tryz.prog W=.ok (.slice (cutA (some ⟨w.heap.size,0,none⟩) (n+16) 16 1) n n) W:=fun W=>run_cut_l tRunes _ (n+16) (n+16) 16 16 rfl (by omega) W;have hA:0<n->cutA (some ⟨w.heap.size,0,none⟩) (n+16) 16 1=some ⟨w.heap.size,16,none⟩:=fun h0=>by unfold cutA;rw[if_neg (by omega)];simp[addr_add]
 go_enter Tryz.func100,Tryz.ntmps100;go_wp2;rw[show ((n:Int)+16-(n:Int))=16 by omega]
 have hb:BufB ((w.alloc (Obj.cells (cellsOf (List.replicate (n+16) 0)).toArray 21)).alloc (Obj.cells #[Value.slice (some { block:=w.heap.size,off:=0 }) (n+16) (n+16),Value.int IntKind.i64 0,Value.int IntKind.i64 16] 211)) (w.heap.size+1) w.heap.size (List.replicate (n+16) 0) 0 16:=by
  refine⟨?_,?_,?_,by omega,by simp,by simp;omega⟩
  ·have:=heap_alloc_new (w.alloc (Obj.cells (cellsOf (List.replicate (n+16) 0)).toArray 21)) (Obj.cells #[Value.slice (some { block:=w.heap.size,off:=0 }) (n+16) (n+16),Value.int IntKind.i64 0,Value.int IntKind.i64 16] 211);rw[World.size_alloc] at this;simpa using this
  ·have h1:=heap_alloc_new w (Obj.cells (cellsOf (List.replicate (n+16) 0)).toArray 21);have h2:=(Ext.refl (w.alloc (Obj.cells (cellsOf (List.replicate (n+16) 0)).toArray 21))).alloc (Obj.cells #[Value.slice (some { block:=w.heap.size,off:=0 }) (n+16) (n+16),Value.int IntKind.i64 0,Value.int IntKind.i64 16] 211);rw[h2.block (by simp)];exact h1
  ·intro x hx;rw[List.eq_of_mem_replicate hx];unfold i32;omega
 have he:=((Ext.refl w).alloc (Obj.cells (cellsOf (List.replicate (n+16) 0)).toArray 21)).alloc (Obj.cells #[Value.slice (some { block:=w.heap.size,off:=0 }) (n+16) (n+16),Value.int IntKind.i64 0,Value.int IntKind.i64 16] 211);generalize (w.alloc (Obj.cells (cellsOf (List.replicate (n+16) 0)).toArray 21)).alloc (Obj.cells #[Value.slice (some { block:=w.heap.size,off:=0 }) (n+16) (n+16),Value.int IntKind.i64 0,Value.int IntKind.i64 16] 211)=w2 at *;have s2:=s.ext he;have h0:=hb.c0;have h2:=hb.c2;have d:=(Ext.refl w2).drew;have HB:=hid (hb.ext d);have S2:=hid (s2.ext d);have HE:=hid (he.trans d);simp only[List.length_replicate] at h0;clear hb s2 he s hmk d;go_region_law (refine step_copyR rfl (.tmp 29) (.tmp 30) _ _ rfl _ Tryz.underlying31 sizeRune _ _ _ _ _ _ rfl rfl S2.out (Nat.le_refl _) w.heap.size 16 (List.replicate (n+16) 0) _ HB.out.ha hA (by simp;omega) ?_;intro w4 hg4 hb4 ho4)
 all_goals
  have hb5:=HB.out.spliced (M:=l) (off:=16) (by simp;omega) (Runes.ok S2.out) hg4.out ho4.out;have B5:=hid hb5;clear hb5 HB hg4 ho4 h0 h2 hcut;go_wp2;go_ret;refine⟨w.heap.size+1,rfl,Below.trans HE.out hb4,_,_,16,B5.out,Nat.le_succ _,Nat.le_refl _,?_⟩;simp[splice];omega
end Go.Proofs.YthomjcjnalfipaaGreatDoor
