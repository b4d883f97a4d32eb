/- A part of the proofs of the Top laws. -/
import Derived.StillTailTactics
import Derived.Deep.LoopGhost
import Derived.Deep.Cut
import Derived.Deep.CutRange
import Derived.BigRegion
import Derived.Test.YthomjcjnalfipaaGreatDoorRows
import Derived.ProofKit
import Derived.OpenShut
import Derived.ChangeOld
import Derived.Deep.Fields
import Derived.Test.YthomjcjnalfipaaGreatDoorYB09
import Derived.Test.YthomjcjnalfipaaGreatDoorYB26
set_option linter.all false
set_option maxRecDepth 100000
set_option maxHeartbeats 4000000
open Go.Lib (hid)
namespace Go.Proofs.YthomjcjnalfipaaGreatDoor
open Go.RowKit
theorem drop_set_self {L:List Int} {k:Nat} {x:Int} (h:k<L.length):(L.set k x).drop k=x::L.drop (k+1):=by
 rw[List.drop_eq_getElem_cons (by simpa using h)];congr 1
 ·simp
 ·rw[List.drop_set_of_lt (by omega)]
theorem move_left {L:List Int} {f tz:Nat} {x:Int} (h0:0<f) (h1:f<=tz) (h2:tz<=L.length) (hx:L[f-1]? =some x) :
  (L.set (tz-1) x).take (f-1)++(L.set (tz-1) x).drop (tz-1)=L.take f++L.drop tz:=by
 rw[drop_set_self (by omega),List.take_set_of_le (by omega),show tz-1+1=tz by omega];obtain⟨g,rfl⟩:∃ g,f=g+1:=⟨f-1,by omega⟩
 simp only[Nat.add_sub_cancel] at hx ⊢;rw[take_snoc hx];simp
theorem move_right {L:List Int} {f tz:Nat} {x:Int} (h1:f<=tz) (h2:tz<L.length) (hx:L[tz]? =some x) :
  (L.set f x).take (f+1)++(L.set f x).drop (tz+1)=L.take f++L.drop tz:=by
 rw[List.drop_set_of_lt (by omega),take_snoc (x:=x) (by simp[show f<L.length by omega]),List.take_set_of_le (by omega)];rw[List.append_assoc];congr 1;have:=List.drop_eq_getElem_cons (l:=L) h2;rw[this];have hx':L[tz]=x:=by rw[List.getElem?_eq_getElem h2] at hx;exact Option.some.inj hx
 rw[hx'];rfl
theorem gMove_any {So:Nat->Prop} {w:World} {pb:Nat} {t:List Int} {at_:Nat} (h:Buf So w pb t at_) (n:Nat) (hn:n<=t.length) :
  Calls Tryz.prog 138 #[.pointer (some ⟨pb,0,none⟩),.int .i64 (n:Nat)] w fun e w'=>e=.returned (.tuple #[])/\Aside So w w'/\Buf So w' pb t n:=by
 obtain⟨ab,L0,to0,hb0,b1,b2,e0⟩:=h;obtain⟨hl0,ht0⟩:=Buf.len (So:=So) hb0 e0;have n0:n<=12000:=by have:=hb0.max;omega
 go_enter Tryz.func138,Tryz.ntmps138;go_wp2;go_loopg [42] (at_-n) (fun k s wr=>∃ L f tz,BufB wr pb ab L f tz/\Aside So w wr/\t=L.take f++L.drop tz/\f-n<=k);case atStart=>exact⟨L0,at_,to0,hb0,Aside.refl _ _,e0,Nat.le_refl _⟩
 case round=>
  obtain⟨L,f,tz,hb,hB,e,hk⟩:=hrel;have h1:=hb.c1;obtain⟨hl,ht⟩:=Buf.len (So:=So) hb e;have l1:=hb.le;have l2:=hb.le';have l3:=hb.max;by_cases hlt:n<f
  ·obtain⟨x,hx⟩:∃ x,L[f-1]? =some x:=⟨L[f-1]'(by omega),List.getElem?_eq_getElem (by omega)⟩
   have hx':i32 x:=hb.ok x (List.mem_of_getElem? hx);have hb3:=(hb.setFr (f:=f-1) (by omega)).setTo (t:=tz-1) (by omega) (by omega);have h2:=hb.c2;have hf:=hb.fp;rw[show ((f-1:Nat):Int)=(f:Int)-1 by omega,show ((tz-1:Nat):Int)=(tz:Int)-1 by omega] at hb3;have B3:=hid hb3;have B0:=hid hb;have E:=hid e;have BB:=hid (((hB.setCell (p:=⟨pb,1,none⟩) b1 (.int .i64 ((f:Int)-1))).setCell (p:=⟨pb,2,none⟩) b1 (.int .i64 ((tz:Int)-1))));clear hb3 hb e hb0 e0;go_upto_region 3 with fail;generalize (wr.setCell ⟨pb,1,none⟩ (.int .i64 ((f:Int)-1))).setCell ⟨pb,2,none⟩ (.int .i64 ((tz:Int)-1))=w3 at *;obtain⟨p,hp⟩:∃ p,p=f-1:=⟨_,rfl⟩
   obtain⟨q,hq⟩:∃ q,q=tz-1:=⟨_,rfl⟩
   rw[<- hp] at hx B3;rw[<- hq] at B3;obtain⟨y,hy⟩:∃ y,L[q]? =some y:=⟨L[q]'(by omega),List.getElem?_eq_getElem (by omega)⟩
   have g0:=B3.out.c0;have g1:=B3.out.c1;have g2:=B3.out.c2;have gx:=B3.out.ca hx;have gy:=B3.out.ca hy;have gf:=B3.out.fa q;have hpl:(p:Int)<(L.length:Int):=by omega
   have hql:(q:Int)<(L.length:Int):=by omega
   have HP:=hid hp;have HQ:=hid hq;clear h1 h2 hp hq;go_still_tail 19,(by kernel_rfl)
   change wpList _ _ _ _ _ w3.drew;go_wp2;clear gx gy gf g0 g1 g2 hpl hql
   have eq:Hid (t=(L.set q x).take p++(L.set q x).drop q):=hid (by
    rw[E.out];have:=move_left (L:=L) (f:=f) (tz:=tz) (x:=x) (by omega) (by omega) (by omega) (by rw[<- HP.out];exact hx);rw[<- HP.out,<- HQ.out] at this
    exact this.symm)
   have B4:=hid ((B3.out.setAt q hx').ext ((Ext.refl _).drew));have BB4:=hid ((BB.out.setCell (p:=⟨ab,q,none⟩) b2 (.int .i32 x)).drew);go_roundg (gk-1);case rel=>exact⟨_,p,q,B4.out,BB4.out,eq.out,by have:=HP.out;omega⟩
   case measure=>omega
  ·have E:=hid e;clear e hb0 e0;go_wp2;go_loopg [81] (n-f) (fun k s wr=>∃ L f tz,BufB wr pb ab L f tz/\Aside So w wr/\t=L.take f++L.drop tz/\n-f<=k/\f<=n);case atStart=>exact⟨L,f,tz,hb,hB,E.out,Nat.le_refl _,by omega⟩
   case round=>
    clear hb h1 E hl ht l1 l2 l3 hlt hB hk;obtain⟨L,f,tz,hb,hB,e,hk,hle⟩:=hrel;have h1:=hb.c1;obtain⟨hl,ht⟩:=Buf.len (So:=So) hb e;have l1:=hb.le;have l2:=hb.le';have l3:=hb.max;by_cases hlt:f<n
    ·obtain⟨x,hx⟩:∃ x,L[tz]? =some x:=⟨L[tz]'(by omega),List.getElem?_eq_getElem (by omega)⟩
     obtain⟨y,hy⟩:∃ y,L[f]? =some y:=⟨L[f]'(by omega),List.getElem?_eq_getElem (by omega)⟩
     have hx':i32 x:=hb.ok x (List.mem_of_getElem? hx);have g0:=hb.c0;have g2:=hb.c2;have gx:=hb.ca hx;have gy:=hb.ca hy;have gf:=hb.fa f;have hpl:(tz:Int)<(L.length:Int):=by omega
     have hql:(f:Int)<(L.length:Int):=by omega
     have eq:Hid (t=(L.set f x).take (f+1)++(L.set f x).drop (tz+1)):=hid (by rw[e];exact (move_right l1 (by omega) hx).symm);have B4:=hid ((hb.setAt f hx').ext ((Ext.refl _).drew));have BB4:=hid ((hB.setCell (p:=⟨ab,f,none⟩) b2 (.int .i32 x)).drew);clear e hb hB;go_upto_region 5 with fail;go_still_tail 19,(by kernel_rfl)
     change wpList _ _ _ _ _ wr.drew;clear g0 g2 h1;go_upto_region 6 with fail;generalize (wr.setCell ⟨ab,f,none⟩ (.int .i32 x)).drew=w3 at *;have g1:=B4.out.c1;have g2:=B4.out.c2;have gp:=B4.out.fp;have hb3:=B4.out.setBoth (f:=f+1) (t:=tz+1) (by omega) (by simp;omega);rw[show ((f+1:Nat):Int)=(f:Int)+1 by omega,show ((tz+1:Nat):Int)=(tz:Int)+1 by omega] at hb3;have HB3:=hid hb3;have BB5:=hid (((BB4.out.setCell (p:=⟨pb,1,none⟩) b1 (.int .i64 ((f:Int)+1))).setCell (p:=⟨pb,2,none⟩) b1 (.int .i64 ((tz:Int)+1))));clear hb3;go_wp2;go_roundg (gk-1);case rel=>exact⟨_,f+1,tz+1,HB3.out,BB5.out,eq.out,by omega,by omega⟩
     case measure=>omega
    ·have hfn:f=n:=by omega
     subst hfn;go_wp2;go_end0;exact⟨rfl,hB,ab,L,tz,hb,b1,b2,e⟩
end Go.Proofs.YthomjcjnalfipaaGreatDoor
namespace Go.Proofs.YthomjcjnalfipaaGreatDoor
open Go.RowKit
theorem room_plain {L Z:List Int} {a tz nt N:Nat} (hZ:Z.length=N) (h1:a<=nt) (h2:a<=L.length) (h3:nt+(L.length-tz)=N) (h4:tz<=L.length) :
  (splice (splice Z 0 (L.take a)) nt (L.drop tz)).length=N/\(splice (splice Z 0 (L.take a)) nt (L.drop tz)).take a++(splice (splice Z 0 (L.take a)) nt (L.drop tz)).drop nt=L.take a++L.drop tz:=by
 have ha:(L.take a).length=a:=by simp;omega
 have hl1:(splice Z 0 (L.take a)).length=N:=by rw[splice_len _ _ _ (by omega)];exact hZ
 have hd:(L.drop tz).length=L.length-tz:=by simp
 refine⟨by rw[splice_len _ _ _ (by omega)];exact hl1,?_⟩
 have e1:(splice Z 0 (L.take a)).take a=L.take a:=by
  simp only[splice,List.take_zero,List.nil_append];rw[List.take_append_of_le_length (by omega),List.take_of_length_le (by omega)]
 generalize splice Z 0 (L.take a)=Y at *;have htk:(Y.take nt).length=nt:=by simp;omega
 have e2:(splice Y nt (L.drop tz)).take a=L.take a:=by
  simp only[splice];rw[List.take_append_of_le_length (by omega),List.take_take,Nat.min_eq_left h1,e1]
 have e3:(splice Y nt (L.drop tz)).drop nt=L.drop tz:=by
  simp only[splice];rw[List.drop_append,List.drop_of_length_le (by omega),htk,Nat.sub_self,List.drop_zero,List.nil_append,List.drop_of_length_le (l:=Y) (by omega),List.append_nil]
 rw[e2,e3]
theorem BufB.reset {w:World} {pb ab nb:Nat} {L L':List Int} {a tz t N:Nat} (h:BufB w pb ab L a tz) (hne:pb≠nb) (hg:w.heap[nb]? =some (.cells (cellsOf L').toArray 21 (0,0))) (hN:L'.length=N)
  (ok:∀ x∈L',i32 x) (h1:a<=t) (h2:t<=N) (h3:N<=12000):BufB ((w.setCell ⟨pb,0,none⟩ (.slice (some ⟨nb,0,none⟩) N N)).setCell ⟨pb,2,none⟩ (.int .i64 (t:Nat))) pb nb L' a t:=by
 subst hN;have e:=setCell_eq_setRow w pb 0 _ _ (0,0) (.slice (some ⟨nb,0,none⟩) L'.length L'.length) h.hp
 have k1:(w.setCell ⟨pb,0,none⟩ (.slice (some ⟨nb,0,none⟩) L'.length L'.length)).heap[pb]? =some (.cells #[.slice (some ⟨nb,0,none⟩) L'.length L'.length,.int .i64 (a:Nat),.int .i64 (tz:Nat)] 211 (0,0)):=by
  rw[e,setRow_heap w pb _ _ _ _ h.hp];simp
 have k2:(w.setCell ⟨pb,0,none⟩ (.slice (some ⟨nb,0,none⟩) L'.length L'.length)).heap[nb]? =some (.cells (cellsOf L').toArray 21 (0,0)):=by
  rw[e,setRow_other w pb nb _ (Ne.symm hne)];exact hg
 generalize w.setCell ⟨pb,0,none⟩ (.slice (some ⟨nb,0,none⟩) L'.length L'.length)=w' at *;have e2:=setCell_eq_setRow w' pb 2 _ _ (0,0) (.int .i64 (t:Nat)) k1;refine⟨?_,?_,ok,h1,h2,h3⟩
 ·rw[e2,setRow_heap w' pb _ _ _ _ k1];simp
 ·rw[e2,setRow_other w' pb nb _ (Ne.symm hne)];exact k2
theorem groom_any {So:Nat->Prop} {w:World} {pb ab:Nat} {L:List Int} {a tz:Nat} (hb:BufB w pb ab L a tz) (b1:So pb) (b2:So ab) (n:Nat) (hn:L.length-(tz-a)+n<=4000) (hbase:∀ b,w.heap.size<=b->So b) :
  Calls Tryz.prog 162 #[.pointer (some ⟨pb,0,none⟩),.int .i64 (n:Nat)] w fun e w'=>e=.returned (.tuple #[])/\Aside So w w' /\
   (∀ k,k≠pb->k<w.heap.size->w'.heap[k]? =w.heap[k]?)/\∃ ab' L' tz',BufB w' pb ab' L' a tz'/\So ab'/\n<=tz'-a/\L'.take a++L'.drop tz'=L.take a++L.drop tz:=by
 have h0:=hb.c0;have h1:=hb.c1;have h2:=hb.c2;have l1:=hb.le;have l2:=hb.le';have l3:=hb.max;have hw0:IntKind.i64.wrap ((tz:Int)-(a:Int))=((tz-a:Nat):Int):=by rw[IntWalk.i64_in _ (by omega)];omega
 by_cases hg:n<=tz-a
 ·have t1:(n:Int)<=((tz-a:Nat):Int):=by omega
  have HB:=hid hb;clear hb;go_enter Tryz.func162,Tryz.ntmps162;go_wp2;go_quiet (fail);go_wp2;refine bodyPost_ret (v:=.tuple #[]) (by simp[results,go_sem]) rfl ?_;have e:=(Ext.refl w).drewN nq;exact⟨rfl,Aside.drewN (Aside.refl _ _) nq,fun k _ hk=>e.block hk,ab,L,tz,HB.out.ext e,b2,hg,rfl⟩
 ·have t1:decide ((n:Int)<=((tz-a:Nat):Int))=false:=by simp;omega
  have HB:=hid hb;clear hb;obtain⟨N,hN⟩:∃ N,N=2*L.length+n:=⟨_,rfl⟩
  have hmk:=make_runes N (by omega);rw[show (N:Int)=2*(L.length:Int)+(n:Int) by omega] at hmk;go_enter Tryz.func162,Tryz.ntmps162;go_wp2;go_quiet (fail);go_upto_region 2 with fail;have hx:=((Ext.refl w).drewN nq).alloc (.cells (cellsOf (List.replicate (2*L.length+n) 0)).toArray 21);have hz:((w.drewN nq).alloc (.cells (cellsOf (List.replicate (2*L.length+n) 0)).toArray 21)).heap[w.heap.size]? =some (.cells (cellsOf (List.replicate (2*L.length+n) 0)).toArray 21 (0,0)):=heap_alloc_new (w.drewN nq) _;generalize (w.drewN nq).alloc (.cells (cellsOf (List.replicate (2*L.length+n) 0)).toArray 21)=w2 at *;have hb2:=HB.out.ext (hx.trans (Ext.refl w2).drew);have k0:=(HB.out.ext hx).c0;have k1:=(HB.out.ext hx).c1;have hpne:pb≠w.heap.size:=by have:=HB.out.ltp;omega
  have hane:ab≠w.heap.size:=by have:=HB.out.lta;omega
  have B2:=hid hb2;have HX:=hid hx;have HZ:Hid (w2.drew.heap[w.heap.size]? =some (.cells (cellsOf (List.replicate (2*L.length+n) 0)).toArray 21 (0,0))):=hid hz;clear hb2 hx hz h0 h1 h2 hmk;have hcut:∀ W,(Instr.sliceAt 31 (.slice (some ⟨ab,0,none⟩) L.length L.length) none (some (.int .i64 (a:Int))) none).run Tryz.prog W=.ok (.slice (some ⟨ab,0,none⟩) a L.length) W:=fun W=>run_cut_h tRunes _ L.length L.length a a rfl (by omega) W;have S2:=hid (B2.out.sl.take (hi:=a) (by omega));go_region_law (refine step_copyR rfl (.tmp 26) (.tmp 35) _ _ rfl _ Tryz.underlying31 sizeRune _ _ _ _ _ _ rfl rfl S2.out (by omega) w.heap.size 0 (List.replicate (2*L.length+n) 0) _ HZ.out (fun _=>rfl) (by simp;omega) ?_;intro w4 hg4 hb4 ho4)
  all_goals
   have hb5:=B2.out.keep (ho4.out pb hpne) (ho4.out ab hane);have j0:=hb5.c0;have j2:=hb5.c2;have B5:=hid hb5;clear hb5;clear k0 k1 hcut;go_wp2;go_quiet (fail);go_upto_region 4 with fail;have hnt0:(2*(L.length:Int)+(n:Int)-((L.length:Int)-(tz:Int)))=((2*L.length+n-(L.length-tz):Nat):Int):=by omega
   rw[hnt0];clear hnt0;obtain⟨nt,hnt⟩:∃ nt,nt=2*L.length+n-(L.length-tz):=⟨_,rfl⟩
   rw[<- hnt];have d5:=(Ext.refl w4).drewN nq;have HB5:=hid (below_drewN hb4 nq);have hb6:=B5.out.ext d5;have hg6:(w4.drewN nq).heap[w.heap.size]? =_:=hg4.out;have ho6:Hid (∀ k,k≠w.heap.size->(w4.drewN nq).heap[k]? =w2.drew.heap[k]?):=hid (fun k hk=>ho4.out k hk);generalize w4.drewN nq=w5 at *;have j0:=hb6.c0;have j2:=hb6.c2;have B6:=hid (hb6.ext (Ext.refl w5).drew);have HG6:Hid (w5.drew.heap[w.heap.size]? =some (.cells (cellsOf (splice (List.replicate (2*L.length+n) 0) 0 (List.take a L))).toArray 21 (0,0))):=hid hg6;have hc1:∀ W,(Instr.sliceAt 31 (.slice (some ⟨w.heap.size,0,none⟩) (2*L.length+n) (2*L.length+n)) (some (.int .i64 (nt:Int))) none none).run Tryz.prog W=.ok (.slice (cutA (some ⟨w.heap.size,0,none⟩) (2*L.length+n) nt 1) (2*L.length+n-nt) (2*L.length+n-nt)) W:=fun W=>run_cut_l tRunes _ _ _ nt nt rfl (by omega) W;have hc2:∀ W,(Instr.sliceAt 31 (.slice (some ⟨ab,0,none⟩) L.length L.length) (some (.int .i64 (tz:Int))) none none).run Tryz.prog W=.ok (.slice (cutA (some ⟨ab,0,none⟩) L.length tz 1) (L.length-tz) (L.length-tz)) W:=fun W=>run_cut_l tRunes _ _ _ tz tz rfl (by omega) W;have hA:0<L.length-tz->cutA (some ⟨w.heap.size,0,none⟩) (2*L.length+n) nt 1=some ⟨w.heap.size,nt,none⟩:=fun h0=>by unfold cutA;rw[if_neg (by omega)];simp[addr_add]
   have S6:=hid (B6.out.sl.drop (lo:=tz) (by omega));have hspl:(splice (List.replicate (2*L.length+n) 0) 0 (List.take a L)).length=2*L.length+n:=by rw[splice_len _ _ _ (by simp;omega)];simp
   have HN:=hid hnt;have hfit:nt+(L.length-tz)<=(splice (List.replicate (2*L.length+n) 0) 0 (List.take a L)).length:=by omega
   have hm:L.length-tz<=2*L.length+n-nt:=by omega
   clear hb6 hg6 hg4 ho4 hb4 B5 d5 hnt hspl;go_region_law (refine step_copyR rfl (.tmp 52) (.tmp 61) _ _ rfl _ Tryz.underlying31 sizeRune _ _ _ _ _ _ rfl rfl S6.out hm w.heap.size nt _ _ HG6.out hA hfit ?_;intro w6 hg7 hb7 ho7)
  all_goals
   have hb8:=B6.out.keep (ho7.out pb hpne) (ho7.out ab hane);have i0:=hb8.c0;have i2:=hb8.c2;have ifz:=hb8.fp;have B8:=hid hb8;clear hb8;clear j0 j2 hc1 hc2 hA;obtain⟨hN,hT⟩:=room_plain (L:=L) (Z:=List.replicate (2*L.length+n) 0) (a:=a) (tz:=tz) (nt:=nt) (N:=2*L.length+n) (by simp) (by have:=HN.out;omega) (by omega) (by have:=HN.out;omega) (by omega)
   have hok:∀ x∈splice (splice (List.replicate (2*L.length+n) 0) 0 (List.take a L)) nt (List.drop tz L),i32 x:=fun x hx=>by
    rcases splice_mem hx with hx | hx
    ·rcases splice_mem hx with hx | hx
     ·rw[List.eq_of_mem_replicate hx];unfold i32;omega
     ·exact B8.out.ok x (List.mem_of_mem_take hx)
    ·exact B8.out.ok x (List.mem_of_mem_drop hx)
   have hb9:=B8.out.reset hpne hg7.out hN hok (t:=nt) (by have:=HN.out;omega) (by have:=HN.out;omega) (by omega);have hB:=((Aside.trans (Aside.trans (Below.side (Ext.drew HX.out) hbase) (Below.side HB5.out hbase)).drew (Below.side hb7 hbase)).setCell (p:=⟨pb,0,none⟩) b1 (.slice (some ⟨w.heap.size,0,none⟩) (2*L.length+n) (2*L.length+n))).setCell (p:=⟨pb,2,none⟩) b1 (.int .i64 (nt:Int))
   have hO:∀ k,k≠pb->k<w.heap.size->((w6.setCell ⟨pb,0,none⟩ (.slice (some ⟨w.heap.size,0,none⟩) (2*L.length+n) (2*L.length+n))).setCell ⟨pb,2,none⟩ (.int .i64 (nt:Int))).heap[k]? =w.heap[k]?:=fun k hk hk2=>by
    rw[Below.heap_setCell _ _ _ _ hk,Below.heap_setCell _ _ _ _ hk,ho7.out k (by omega)];exact (ho6.out k (by omega)).trans (HX.out.block hk2)
   have H9:=hid hb9;have HB':=hid hB;have HO:=hid hO;have HT:=hid hT;clear hb9 hB hO hT hN hok hg7 hb7 ho7;go_wp2;go_end0;exact⟨rfl,HB'.out,HO.out,_,_,nt,H9.out,hbase _ (Nat.le_refl _),by have:=HN.out;omega,HT.out⟩
end Go.Proofs.YthomjcjnalfipaaGreatDoor
namespace Go.Proofs.YthomjcjnalfipaaGreatDoor
open Go.RowKit
theorem put_plain {L l:List Int} {a tz n:Nat} (hl:l.length=n) (h1:a+n<=tz) (h2:tz<=L.length) :
  (splice L a l).take (a+n)++(splice L a l).drop tz=L.take a++l++L.drop tz:=by
 have ha:(L.take a).length=a:=by simp;omega
 have e:splice L a l=(L.take a++l)++L.drop (a+n):=by simp[splice,hl]
 have hal:(L.take a++l).length=a+n:=by rw[List.length_append,ha,hl]
 rw[e,List.take_append_of_le_length (by omega),List.take_of_length_le (by omega),List.drop_append,List.drop_of_length_le (l:=L.take a++l) (by omega),List.nil_append,List.drop_drop,hal,show a+n+(tz-(a+n))=tz by omega]
theorem text_cut {L t:List Int} {a tz:Nat} (e:t=L.take a++L.drop tz) (h:a<=L.length):t.take a=L.take a/\t.drop a=L.drop tz:=by
 have ha:(L.take a).length=a:=by simp;omega
 constructor
 ·rw[e,List.take_append_of_le_length (by omega),List.take_of_length_le (by omega)]
 ·rw[e,List.drop_append,List.drop_of_length_le (by omega),List.nil_append,ha,Nat.sub_self,List.drop_zero]
theorem gPut_any {So:Nat->Prop} {w:World} {pb:Nat} {t:List Int} {a:Nat} (h:Buf So w pb t a) {A:Option Addr} {n c:Nat} {l:List Int} (s:SlR rRune 1 (fun b=>¬ So b) w A n c l) (hn:t.length+n<=4000) (hbase:∀ b,w.heap.size<=b->So b) :
  Calls Tryz.prog 140 #[.pointer (some ⟨pb,0,none⟩),.slice A n c] w fun e w'=>e=.returned (.tuple #[])/\Aside So w w'/\Buf So w' pb (t.take a++l++t.drop a) (a+n):=by
 obtain⟨ab,L,tz,hb,b1,b2,e⟩:=h;obtain⟨hl,ht⟩:=Buf.len (So:=So) hb e;have hsl:=s.len;have l1:=hb.le;have l2:=hb.le';have l3:=hb.max;obtain⟨et,ed⟩:=text_cut e (by omega);have HR:=hid (groom_any hb b1 b2 n (by omega) hbase);have ET:=hid et;have ED:=hid ed;have S:=hid s;have HSL:=hid hsl;have hnn:n<=4000:=by omega
 clear hb e et ed s hsl;go_enter Tryz.func140,Tryz.ntmps140;go_upto_region 1 with (go_at_call 162;refine HR.out.mono ?_;rintro e w1 ⟨rfl,hB,hO,ab',L',tz',hb',b2',hgap,hT⟩);have l1':=hb'.le;have l2':=hb'.le';have l3':=hb'.max;have s1:Runes w1.drew A n c l:=Runes.ext ((S.out.keep (keep_rune _) (fun b hb hlt=>hB.block b hlt hb)).mono (fun _ _ h=>h) (fun _ _=>trivial)) (Ext.refl w1).drew;have hw:IntKind.i64.wrap ((a:Int)+(n:Int))=((a+n:Nat):Int):=by rw[IntWalk.i64_in _ (by omega)];omega
 have hc:∀ W,(Instr.sliceAt 31 (.slice (some ⟨ab',0,none⟩) L'.length L'.length) (some (.int .i64 (a:Int))) none none).run Tryz.prog W=.ok (.slice (cutA (some ⟨ab',0,none⟩) L'.length a 1) (L'.length-a) (L'.length-a)) W:=fun W=>run_cut_l tRunes _ _ _ a a rfl (by omega) W;have hA:0<n->cutA (some ⟨ab',0,none⟩) L'.length a 1=some ⟨ab',a,none⟩:=fun h0=>by unfold cutA;rw[if_neg (by omega)];simp[addr_add]
 have h0:=hb'.c0;have h1:=hb'.c1;have B2:=hid (hb'.ext (Ext.refl w1).drew);have hm:n<=L'.length-a:=by omega
 have hfit:a+n<=L'.length:=by omega
 have HB:=hid hB;have HT:=hid hT;have S1:=hid s1;have hgap':a+n<=tz':=by omega
 clear hb' s1 hB hO hT hgap;go_region_law (refine step_copyR rfl (.tmp 20) (.tmp 21) _ _ rfl _ Tryz.underlying31 sizeRune _ _ _ _ _ _ rfl rfl S1.out hm ab' a L' _ B2.out.ha hA hfit ?_;intro w4 hg4 hb4 ho4;have B4:=hid (B2.out.spliced (M:=l) (off:=a) (by rw[HSL.out];exact hfit) (Runes.ok S1.out) hg4.out ho4.out);have i1:=B4.out.c1;have ifz:=B4.out.fp 1)
 all_goals
  have hb5:=B4.out.setFr (f:=a+n) hgap';have hB5:=(Aside.trans HB.out.drew (Aside.of1 hb4 ho4.out b2')).setCell (p:=⟨pb,1,none⟩) b1 (.int .i64 ((a+n:Nat):Int));have B5:=hid hb5;have HB5:=hid hB5;clear hb5 hB5 B4 hg4 ho4 hb4 i1 ifz h0 h1 hc;go_wp2;go_end0;refine⟨rfl,HB5.out,ab',_,tz',B5.out,b1,b2',?_⟩;rw[put_plain HSL.out hgap' l2',ET.out,ED.out];have:=text_cut (L:=L') (a:=a) (tz:=tz') rfl (by omega);rw[HT.out] at this;have h2:=text_cut (L:=L) (a:=a) (tz:=tz) rfl (by omega);rw[<- this.1,<- this.2,h2.1,h2.2]
end Go.Proofs.YthomjcjnalfipaaGreatDoor
namespace Go.Proofs.YthomjcjnalfipaaGreatDoor
open Go.RowKit
theorem gRunes_any {So:Nat->Prop} {w:World} {pb:Nat} {t:List Int} {a:Nat} (h:Buf So w pb t a) :
  Calls Tryz.prog 104 #[.pointer (some ⟨pb,0,none⟩)] w fun e w'=>∃ v,e=.returned v/\Ext w w'/\OwnR rRune 21 1 w.heap.size w' v t:=by
 obtain⟨ab,L,tz,hb,b1,b2,e⟩:=h;obtain⟨hl,ht⟩:=Buf.len (So:=So) hb e;have l1:=hb.le;have l2:=hb.le';have l3:=hb.max;have hc1:∀ W,(Instr.sliceAt 31 (.slice (some ⟨ab,0,none⟩) L.length L.length) none (some (.int .i64 (a:Int))) none).run Tryz.prog W=.ok (.slice (some ⟨ab,0,none⟩) a L.length) W:=fun W=>run_cut_h tRunes _ L.length L.length a a rfl (by omega) W;have hc2:∀ W,(Instr.sliceAt 31 (.slice (some ⟨ab,0,none⟩) L.length L.length) (some (.int .i64 (tz:Int))) none none).run Tryz.prog W=.ok (.slice (cutA (some ⟨ab,0,none⟩) L.length tz 1) (L.length-tz) (L.length-tz)) W:=fun W=>run_cut_l tRunes _ _ _ tz tz rfl (by omega) W;have h0:=hb.c0;have h1:=hb.c1;have h2:=hb.c2;have e0:=(Ext.refl w).drew;have S1:=(hb.ext e0).sl.take (hi:=a) (by omega);have HB:=hid hb;have o0:=OwnR.nil rRune 21 1 w.heap.size w.drew;have ha:(L.take a).length=a:=by simp;omega
 have HA:=hid ha;have HE:=hid e;have hb1:a<=60000:=by omega
 have hb2:a+(L.length-tz)<=60000:=by omega
 clear hb e ha;go_enter Tryz.func104,Tryz.ntmps104;go_wp2
 go_region_held3 (fun w'=>w'.cell? ⟨pb,0,none⟩=some (.slice (some ⟨ab,0,none⟩) L.length L.length)/\w'.cell? ⟨pb,1,none⟩=some (.int .i64 (a:Nat))/\w'.cell? ⟨pb,2,none⟩=some (.int .i64 (tz:Nat)))
  (first | go_keep | exact⟨p0,p1,p2⟩ | exact⟨q0,q1,q2⟩)
  (first
   | (refine step_appS tRunes (by omega) rfl (.const (.slice none 0 0)) (.tmp 11) rfl rfl o0 rfl S1 (fun _ _ h=>h) one_rune (keep_rune bot) (bot_no _) ?_ e0.size ?_
      ·simp;omega
      intro v1 w1 o1 g1 hat1;have e1:=e0.app g1 o0;simp only[List.nil_append] at o1;have HB1:=HB.out.ext e1;have S2:=HB1.sl.drop (lo:=tz) (by omega)
      have p0:=HB1.c0;have p1:=HB1.c1;have p2:=HB1.c2)
   | (refine step_appS tRunes (by omega) rfl (.tmp 12) (.tmp 21) rfl rfl o1 rfl S2 (fun _ _ h=>h) one_rune (keep_rune bot) (bot_no _) ?_ e1.size ?_
      ·rw[HA.out];exact hb2
      intro v2 w2 o2 g2 hat2;have e2:=e1.app g2 o1;have HB2:=HB.out.ext e2
      have q0:=HB2.c0;have q1:=HB2.c1;have q2:=HB2.c2))
 all_goals
  rw[<- HE.out] at o2;have O2:=hid o2;have E2:=hid e2;clear g1 g2 hat1 hat2 o1 o2 e1 e2 S1 S2 HB1 HB2;go_wp2;go_ret;exact⟨v2,rfl,E2.out,O2.out⟩
end Go.Proofs.YthomjcjnalfipaaGreatDoor
namespace Go.Proofs.YthomjcjnalfipaaGreatDoor
open Go.RowKit
theorem mach_row {w:World} {m pb f:Nat} {nm:String} (h:w.cell? ⟨m,0,none⟩=some (.pointer (some ⟨pb,0,none⟩)))
  (hr:(Tryz.t168.methods.find? (·.name==nm)).map (fun r=>(r.path,r.func))=some (#[⟨172,0,true⟩],some (f,true))) :
  (method 393 168 (.pointer (some ⟨m,0,none⟩)) nm).run Tryz.prog w=.ok (f,.pointer (some ⟨pb,0,none⟩)) w:=by
 obtain⟨row,hrow,he⟩:=Option.map_eq_some_iff.1 hr;have hp:row.path=#[⟨172,0,true⟩]:=by have:=congrArg Prod.fst he;simpa using this
 have hf:row.func=some (f,true):=by have:=congrArg Prod.snd he;simpa using this
 clear hr he;have hu:=Tryz.underlying172;have hu2:=Tryz.underlying169;have ha:=Tryz.isAgg169;unfold method;simp[go_sem,hrow,hp,hf,follow,receiverAt,Place.get,h,hu,hu2,ha]
theorem mach_len {w:World} {m pb:Nat} (h:w.cell? ⟨m,0,none⟩=some (.pointer (some ⟨pb,0,none⟩))) :
  (method 393 168 (.pointer (some ⟨m,0,none⟩)) "Len").run Tryz.prog w=.ok (102,.pointer (some ⟨pb,0,none⟩)) w:=mach_row h (by kernel_rfl)
theorem mach_rune {w:World} {m pb:Nat} (h:w.cell? ⟨m,0,none⟩=some (.pointer (some ⟨pb,0,none⟩))) :
  (method 393 168 (.pointer (some ⟨m,0,none⟩)) "Rune").run Tryz.prog w=.ok (160,.pointer (some ⟨pb,0,none⟩)) w:=mach_row h (by kernel_rfl)
theorem gRune_any {So:Nat->Prop} {w:World} {pb:Nat} {t:List Int} {a k:Nat} {x:Int} (h:Buf So w pb t a) (hx:t[k]? =some x) :
  Calls Tryz.prog 160 #[.pointer (some ⟨pb,0,none⟩),.int .i64 k] w fun e w'=>e=.returned (.int .i32 x)/\Ext w w':=by
 obtain⟨ab,L,tz,hb,_,_,e⟩:=h;have hkl:=lt_of_get hx;obtain⟨hl,hat⟩:=Buf.len (So:=So) hb e;have h1:=hb.le;have h2:=hb.le';have h3:=hb.max;have c0:=hb.c0;have c1:=hb.c1;have c2:=hb.c2;have hlp:=hb.ltp;have hnp:pb≠w.heap.size:=by omega
 by_cases hk:a<=k
 ·obtain⟨q,hq⟩:∃ z,z=k+(tz-a):=⟨_,rfl⟩
  have hxq:L[q]? =some x:=by
   rw[e,List.getElem?_append_right (by simp;omega),List.getElem?_drop] at hx;rw[<- hx];congr 1;simp;omega
  have ca:=hb.ca hxq;have g1:(a:Int)<=(k:Int):=by omega
  have g2:decide ((k:Int) ≥ (a:Int))=true:=decide_eq_true g1;have g3:decide ((a:Int)<=(k:Int))=true:=decide_eq_true g1;obtain⟨d,hd⟩:∃ z,a+z=tz:=⟨tz-a,by omega⟩
  have e1:(tz:Int)-(a:Int)=(d:Int):=by omega
  have e2:(k:Int)+(d:Int)=(q:Int):=by omega
  have w1:IntKind.i64.wrap ((tz:Int)-(a:Int))=(d:Int):=by rw[IntKind.wrap_i64];omega
  have w2:IntKind.i64.wrap ((k:Int)+(d:Int))=(q:Int):=by rw[IntKind.wrap_i64];omega
  have w3:IntKind.i64.wrap (d:Int)=(d:Int):=by rw[IntKind.wrap_i64];omega
  have w4:IntKind.i64.wrap (q:Int)=(q:Int):=by rw[IntKind.wrap_i64];omega
  have bq:(q:Int)<(L.length:Int):=by have:=lt_of_get hxq;omega
  have hla:=hb.lta;clear hxq hx e hb hq hd h1 h2 h3 hl hat hkl;generalize L.length=n at *;go_enter Tryz.func160,Tryz.ntmps160;go_wp2;go_quiet (fail);go_wp2;go_ret;exact⟨rfl,(Ext.refl _).drewN _⟩
 ·have hxq:L[k]? =some x:=by
   rw[e,List.getElem?_append_left (by simp;omega),List.getElem?_take,if_pos (by omega)] at hx;exact hx
  have ca:=hb.ca hxq;have g1:¬ (a:Int)<=(k:Int):=by omega
  have g2:decide ((k:Int) ≥ (a:Int))=false:=decide_eq_false g1;have g3:decide ((a:Int)<=(k:Int))=false:=decide_eq_false g1;have bq:(k:Int)<(L.length:Int):=by have:=lt_of_get hxq;omega
  have hla:=hb.lta;clear hxq hx e hb h1 h2 h3 hl hat hkl;generalize L.length=n at *;go_enter Tryz.func160,Tryz.ntmps160;go_wp2;go_ret;exact⟨rfl,Ext.refl _⟩
end Go.Proofs.YthomjcjnalfipaaGreatDoor
