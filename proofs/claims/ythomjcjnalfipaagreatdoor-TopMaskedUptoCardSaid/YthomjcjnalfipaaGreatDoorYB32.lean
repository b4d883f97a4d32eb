/- A part of the proofs of the Top laws. -/
import Derived.Deep.Cut
import Derived.Deep.CutRange
import Derived.Test.YthomjcjnalfipaaGreatDoorRows
import Derived.ProofKit
import Derived.OpenShut
import Derived.ChangeOld
import Derived.Deep.Fields
import Derived.Test.YthomjcjnalfipaaGreatDoorYB29
import Derived.Test.YthomjcjnalfipaaGreatDoorYB30
import Derived.Test.YthomjcjnalfipaaGreatDoorYB31
set_option linter.all false
set_option maxRecDepth 100000
set_option maxHeartbeats 2000000
open Go.Lib (hid)
namespace Go.Proofs.YthomjcjnalfipaaGreatDoor
open Go.RowKit Go.Maps Go.WideMaps Go.ChangeMaps
structure Vr (W:World) (b:Nat) (v:Value):Prop where
 h:W.cell? ⟨b,0,none⟩=some v
 fz:W.frozen? ⟨b,0,none⟩=false
 lt:b<W.heap.size/\b≠W.heap.size
section
variable {W W' : World} {b b' : Nat} {v : Value}
theorem Vr.keep (h:Vr W b v) (hb:W'.heap[b]? =W.heap[b]?) (hs:W.heap.size<=W'.heap.size):Vr W' b v:=
 ⟨(World.cell?_of_block hb).trans h.h,by have:=h.fz;simp only[World.frozen?] at this ⊢;rw[hb];exact this,by have:=h.lt;omega⟩
theorem Vr.ext (h:Vr W b v) (e:Ext W W'):Vr W' b v:=h.keep (e.block h.lt.1) e.size
theorem Vr.agree (h:Vr W b v) {ok:Nat->Prop} (e:Agree ok W W') (hb:ok b) (hs:W.heap.size<=W'.heap.size):Vr W' b v:=h.keep (e b hb h.lt.1) hs
theorem Vr.off (h:Vr W b v) (hb:b≠b') (o:Nat) (x:Value):Vr (W.setCell ⟨b',o,none⟩ x) b v:=h.keep (heap_setB hb) (by rw[size_set];exact Nat.le_refl _)
theorem Vr.set (h:Vr W b v) (x:Value):Vr (W.setCell ⟨b,0,none⟩ x) b x:=⟨set_same h.h,by rw[World.frozen?_setCell];exact h.fz,by rw[size_set];exact h.lt⟩
theorem Vr.grown (h:Vr W b v) {row:Option Nat} (g:W.grownBy W' row) (hr:row≠some b):Vr W' b v:=h.keep (g.block b h.lt.1 (fun e=>hr e.symm)) g.size
end
def rPas (ok:Nat->Prop):World->List Value->Pas->Prop:=fun w vs p=>∃ A n c,vs=[.string p.name,.slice A n c]/\p.name.size<=maxLen/\SlR (rRuleO ok) 7 ok w A n c p.rules
theorem mono_ruleO {ok ok':Nat->Prop} (hk:∀ b,ok b->ok' b) {w:World} {vs:List Value} {r:Rule} (h:rRuleO ok w vs r):rRuleO ok' w vs r:=by
 obtain⟨s,f,A1,n1,c1,A2,n2,c2,A3,n3,c3,A4,n4,c4,k,e,h1,h2,h3,h4,h5,h6,h7,h8⟩:=h;exact⟨s,f,A1,n1,c1,A2,n2,c2,A3,n3,c3,A4,n4,c4,k,e,h1,h2,h3.mono (fun vs x hx=>fam_set.mono hk hx) hk,h4.mono (fun vs x hx=>fam_set.mono hk hx) hk,h5.mono (fun vs x hx=>fam_set.mono hk hx) hk,h6.mono (fun _ _ h=>h) hk,h7,h8⟩
theorem keep_pas (ok:Nat->Prop):Keep (rPas ok) ok:=fun w w' vs p ha ⟨A,n,c,e,h1,h2⟩=>⟨A,n,c,e,h1,h2.keep (keep_ruleO ok) ha⟩
theorem one_pas (ok:Nat->Prop):One (rPas ok):=fun w vs p ⟨A,n,c,e,h1,h2⟩ u hu=>by subst e;simp at hu;rcases hu with rfl | rfl <;> rfl
theorem mono_pas {ok ok':Nat->Prop} (hk:∀ b,ok b->ok' b) {w:World} {vs:List Value} {p:Pas} (h:rPas ok w vs p):rPas ok' w vs p:=by
 obtain⟨A,n,c,e,h1,h2⟩:=h;exact⟨A,n,c,e,h1,h2.mono (fun vs x hx=>mono_ruleO hk hx) hk⟩
theorem TE_rule:ElemT Tryz.prog 40 61 7 112:=elemT Tryz.underlying40 (z:=.agg #[.bool false,.bool false,.slice none 0 0,.slice none 0 0,.slice none 0 0,.slice none 0 0,.int .i64 0]) (by kernel_rfl) rfl (by omega)
theorem TE_pass:ElemT Tryz.prog 24 42 2 40:=elemT Tryz.underlying24 (z:=.agg #[.string ⟨#[]⟩,.slice none 0 0]) (by kernel_rfl) rfl (by omega)
structure Four (ok:Nat->Prop) (base:Nat) (w:World) (va vb vp vq:Value) (la lb:List Rule) (lp lq:List Pas):Prop where
 ra:OwnR (rRuleO ok) 61 7 base w va la
 rb:OwnR (rRuleO ok) 61 7 base w vb lb
 rp:OwnR (rPas ok) 42 2 base w vp lp
 rq:OwnR (rPas ok) 42 2 base w vq lq
 hok:∀ i,ok i->base<=i/\i<w.heap.size
 na:∀ g,va.ownBlock=some g->¬ ok g
 nb:∀ g,vb.ownBlock=some g->¬ ok g
 np:∀ g,vp.ownBlock=some g->¬ ok g
 nq:∀ g,vq.ownBlock=some g->¬ ok g
 dab:∀ g,va.ownBlock=some g->vb.ownBlock≠some g
 dap:∀ g,va.ownBlock=some g->vp.ownBlock≠some g
 daq:∀ g,va.ownBlock=some g->vq.ownBlock≠some g
 dbp:∀ g,vb.ownBlock=some g->vp.ownBlock≠some g
 dbq:∀ g,vb.ownBlock=some g->vq.ownBlock≠some g
 dpq:∀ g,vp.ownBlock=some g->vq.ownBlock≠some g
section
variable {ok ok' tk : Nat -> Prop} {base : Nat} {w w' : World} {va vb vp vq : Value} {la lb : List Rule} {lp lq : List Pas}
theorem Four.agree (F:Four ok base w va vb vp vq la lb lp lq) (ha:Agree (fun b=>base<=b) w w') (hs:w.heap.size<=w'.heap.size):Four ok base w' va vb vp vq la lb lp lq:=
 ⟨F.ra.keep (keep_ruleO ok) (ha.mono fun b hb=>(F.hok b hb).1) (fun g hg=>ha g (F.ra.lt g hg).1 (F.ra.lt g hg).2),F.rb.keep (keep_ruleO ok) (ha.mono fun b hb=>(F.hok b hb).1) (fun g hg=>ha g (F.rb.lt g hg).1 (F.rb.lt g hg).2),F.rp.keep (keep_pas ok) (ha.mono fun b hb=>(F.hok b hb).1) (fun g hg=>ha g (F.rp.lt g hg).1 (F.rp.lt g hg).2),F.rq.keep (keep_pas ok) (ha.mono fun b hb=>(F.hok b hb).1) (fun g hg=>ha g (F.rq.lt g hg).1 (F.rq.lt g hg).2),fun i hi=>⟨(F.hok i hi).1,Nat.lt_of_lt_of_le (F.hok i hi).2 hs⟩,F.na,F.nb,F.np,F.nq,F.dab,F.dap,F.daq,F.dbp,F.dbq,F.dpq⟩
theorem Four.ext (F:Four ok base w va vb vp vq la lb lp lq) (e:Ext w w'):Four ok base w' va vb vp vq la lb lp lq:=F.agree (e.agree _) e.size
theorem Four.off (F:Four ok base w va vb vp vq la lb lp lq) {b:Nat} (hb:b<base) (o:Nat) (x:Value):Four ok base (w.setCell ⟨b,o,none⟩ x) va vb vp vq la lb lp lq:=F.agree ((agree_set b o w x).mono fun i hi=>by omega) (by rw[size_set];exact Nat.le_refl _)
theorem Four.more (F:Four ok base w va vb vp vq la lb lp lq) (ht:∀ i,tk i->base<=i/\i<w.heap.size/\va.ownBlock≠some i/\vb.ownBlock≠some i/\vp.ownBlock≠some i/\vq.ownBlock≠some i):Four (fun i=>ok i\/tk i) base w va vb vp vq la lb lp lq:=
 ⟨F.ra.weaken (fun vs x hx=>mono_ruleO (fun b hb=>.inl hb) hx),F.rb.weaken (fun vs x hx=>mono_ruleO (fun b hb=>.inl hb) hx),F.rp.weaken (fun vs x hx=>mono_pas (fun b hb=>.inl hb) hx),F.rq.weaken (fun vs x hx=>mono_pas (fun b hb=>.inl hb) hx),fun i hi=>hi.elim (F.hok i) (fun h=>⟨(ht i h).1,(ht i h).2.1⟩),fun g hg hi=>hi.elim (F.na g hg) (fun h=>(ht g h).2.2.1 hg),fun g hg hi=>hi.elim (F.nb g hg) (fun h=>(ht g h).2.2.2.1 hg),fun g hg hi=>hi.elim (F.np g hg) (fun h=>(ht g h).2.2.2.2.1 hg),fun g hg hi=>hi.elim (F.nq g hg) (fun h=>(ht g h).2.2.2.2.2 hg),F.dab,F.dap,F.daq,F.dbp,F.dbq,F.dpq⟩
theorem Four.put_a (F:Four ok base w va vb vp vq la lb lp lq) {va':Value} {la':List Rule} (o:OwnR (rRuleO ok) 61 7 base w' va' la') (hg:w.grownBy w' va.ownBlock) (hat:va'.ownBlock=va.ownBlock\/va'.ownBlock=some w.heap.size):Four ok base w' va' vb vp vq la' lb lp lq:=by
 have ha:Agree ok w w':=fun b hb hlt=>hg.block b hlt (fun e=>F.na b e.symm hb);exact⟨o,F.rb.keep (keep_ruleO ok) ha (fun g hgy=>hg.block g (F.rb.lt g hgy).2 (fun e=>F.dab g e.symm hgy)),F.rp.keep (keep_pas ok) ha (fun g hgy=>hg.block g (F.rp.lt g hgy).2 (fun e=>F.dap g e.symm hgy)),F.rq.keep (keep_pas ok) ha (fun g hgy=>hg.block g (F.rq.lt g hgy).2 (fun e=>F.daq g e.symm hgy)),fun i hi=>⟨(F.hok i hi).1,Nat.lt_of_lt_of_le (F.hok i hi).2 hg.size⟩,fun g hgv hk=>hat.elim (fun e=>F.na g (e▸hgv) hk) (fun e=>by rw[e] at hgv;have:=(F.hok g hk).2;cases hgv;omega),F.nb,F.np,F.nq,fun g hgv h=>hat.elim (fun e=>F.dab g (e▸hgv) h) (fun e=>by rw[e] at hgv;have:=(F.rb.lt g h).2;cases hgv;omega),fun g hgv h=>hat.elim (fun e=>F.dap g (e▸hgv) h) (fun e=>by rw[e] at hgv;have:=(F.rp.lt g h).2;cases hgv;omega),fun g hgv h=>hat.elim (fun e=>F.daq g (e▸hgv) h) (fun e=>by rw[e] at hgv;have:=(F.rq.lt g h).2;cases hgv;omega),F.dbp,F.dbq,F.dpq⟩
theorem Four.put_b (F:Four ok base w va vb vp vq la lb lp lq) {vb':Value} {lb':List Rule} (o:OwnR (rRuleO ok) 61 7 base w' vb' lb') (hg:w.grownBy w' vb.ownBlock) (hat:vb'.ownBlock=vb.ownBlock\/vb'.ownBlock=some w.heap.size):Four ok base w' va vb' vp vq la lb' lp lq:=by
 have ha:Agree ok w w':=fun b hb hlt=>hg.block b hlt (fun e=>F.nb b e.symm hb);exact⟨F.ra.keep (keep_ruleO ok) ha (fun g hgy=>hg.block g (F.ra.lt g hgy).2 (fun e=>F.dab g hgy e.symm)),o,F.rp.keep (keep_pas ok) ha (fun g hgy=>hg.block g (F.rp.lt g hgy).2 (fun e=>F.dbp g e.symm hgy)),F.rq.keep (keep_pas ok) ha (fun g hgy=>hg.block g (F.rq.lt g hgy).2 (fun e=>F.dbq g e.symm hgy)),fun i hi=>⟨(F.hok i hi).1,Nat.lt_of_lt_of_le (F.hok i hi).2 hg.size⟩,F.na,fun g hgv hk=>hat.elim (fun e=>F.nb g (e▸hgv) hk) (fun e=>by rw[e] at hgv;have:=(F.hok g hk).2;cases hgv;omega),F.np,F.nq,fun g h hgv=>hat.elim (fun e=>F.dab g h (e▸hgv)) (fun e=>by rw[e] at hgv;have:=(F.ra.lt g h).2;cases hgv;omega),F.dap,F.daq,fun g hgv h=>hat.elim (fun e=>F.dbp g (e▸hgv) h) (fun e=>by rw[e] at hgv;have:=(F.rp.lt g h).2;cases hgv;omega),fun g hgv h=>hat.elim (fun e=>F.dbq g (e▸hgv) h) (fun e=>by rw[e] at hgv;have:=(F.rq.lt g h).2;cases hgv;omega),F.dpq⟩
theorem Four.put_p (F:Four ok base w va vb vp vq la lb lp lq) {vp':Value} {lp':List Pas} (o:OwnR (rPas ok) 42 2 base w' vp' lp') (hg:w.grownBy w' vp.ownBlock) (hat:vp'.ownBlock=vp.ownBlock\/vp'.ownBlock=some w.heap.size):Four ok base w' va vb vp' vq la lb lp' lq:=by
 have ha:Agree ok w w':=fun b hb hlt=>hg.block b hlt (fun e=>F.np b e.symm hb);exact⟨F.ra.keep (keep_ruleO ok) ha (fun g hgy=>hg.block g (F.ra.lt g hgy).2 (fun e=>F.dap g hgy e.symm)),F.rb.keep (keep_ruleO ok) ha (fun g hgy=>hg.block g (F.rb.lt g hgy).2 (fun e=>F.dbp g hgy e.symm)),o,F.rq.keep (keep_pas ok) ha (fun g hgy=>hg.block g (F.rq.lt g hgy).2 (fun e=>F.dpq g e.symm hgy)),fun i hi=>⟨(F.hok i hi).1,Nat.lt_of_lt_of_le (F.hok i hi).2 hg.size⟩,F.na,F.nb,fun g hgv hk=>hat.elim (fun e=>F.np g (e▸hgv) hk) (fun e=>by rw[e] at hgv;have:=(F.hok g hk).2;cases hgv;omega),F.nq,F.dab,fun g h hgv=>hat.elim (fun e=>F.dap g h (e▸hgv)) (fun e=>by rw[e] at hgv;have:=(F.ra.lt g h).2;cases hgv;omega),F.daq,fun g h hgv=>hat.elim (fun e=>F.dbp g h (e▸hgv)) (fun e=>by rw[e] at hgv;have:=(F.rb.lt g h).2;cases hgv;omega),F.dbq,fun g hgv h=>hat.elim (fun e=>F.dpq g (e▸hgv) h) (fun e=>by rw[e] at hgv;have:=(F.rq.lt g h).2;cases hgv;omega)⟩
theorem Four.put_q (F:Four ok base w va vb vp vq la lb lp lq) {vq':Value} {lq':List Pas} (o:OwnR (rPas ok) 42 2 base w' vq' lq') (hg:w.grownBy w' vq.ownBlock) (hat:vq'.ownBlock=vq.ownBlock\/vq'.ownBlock=some w.heap.size):Four ok base w' va vb vp vq' la lb lp lq':=by
 have ha:Agree ok w w':=fun b hb hlt=>hg.block b hlt (fun e=>F.nq b e.symm hb);exact⟨F.ra.keep (keep_ruleO ok) ha (fun g hgy=>hg.block g (F.ra.lt g hgy).2 (fun e=>F.daq g hgy e.symm)),F.rb.keep (keep_ruleO ok) ha (fun g hgy=>hg.block g (F.rb.lt g hgy).2 (fun e=>F.dbq g hgy e.symm)),F.rp.keep (keep_pas ok) ha (fun g hgy=>hg.block g (F.rp.lt g hgy).2 (fun e=>F.dpq g hgy e.symm)),o,fun i hi=>⟨(F.hok i hi).1,Nat.lt_of_lt_of_le (F.hok i hi).2 hg.size⟩,F.na,F.nb,F.np,fun g hgv hk=>hat.elim (fun e=>F.nq g (e▸hgv) hk) (fun e=>by rw[e] at hgv;have:=(F.hok g hk).2;cases hgv;omega),F.dab,F.dap,fun g h hgv=>hat.elim (fun e=>F.daq g h (e▸hgv)) (fun e=>by rw[e] at hgv;have:=(F.ra.lt g h).2;cases hgv;omega),F.dbp,fun g h hgv=>hat.elim (fun e=>F.dbq g h (e▸hgv)) (fun e=>by rw[e] at hgv;have:=(F.rb.lt g h).2;cases hgv;omega),fun g h hgv=>hat.elim (fun e=>F.dpq g h (e▸hgv)) (fun e=>by rw[e] at hgv;have:=(F.rp.lt g h).2;cases hgv;omega)⟩
end
end Go.Proofs.YthomjcjnalfipaaGreatDoor
namespace Go.Proofs.YthomjcjnalfipaaGreatDoor
open Go.RowKit
theorem step_keeps {l:List Rule} {t:List Int} {a s p:Nat} {y:Play} (hok:∀ r∈l,OkRule r) (hn:t.length<=4000) (ha:a<t.length) (htr:t.all right=true) (h:playStep l ⟨t,a,s,p⟩=some y) :
  y.text.length<=4000/\y.text.all right=true/\y.at_<=y.text.length/\y.steps=s+1/\y.put<=p+1:=by
 by_cases hk:first l t a<0
 ·rw[playStep_no hk] at h;cases h;exact⟨hn,htr,by show a+1<=t.length;omega,rfl,by show p<=p+1;omega⟩
 ·obtain⟨i,r,hir,hhere,hfi⟩:=first_mem (by omega:0<=first l t a);have okr:=hok r (List.mem_of_getElem? hir);have hroom:=here_room hhere;have hlen:=putAt_len hroom;by_cases hb:4000<(t.length:Int)-r.source.length+r.target.length
  ·rw[playStep_much hfi hir hb] at h;cases h
  ·rw[playStep_put hfi hir hb] at h;cases h;refine⟨by show (putAt r t a).length<=4000;omega,?_,?_,rfl,Nat.le_refl _⟩
   ·show (putAt r t a).all right=true;unfold putAt;rw[List.all_eq_true] at htr ⊢;have h2:=okr.tr;rw[List.all_eq_true] at h2;intro x hx;simp only[List.mem_append] at hx;rcases hx with (hx | hx) | hx
    ·exact htr x (List.mem_of_mem_take hx)
    ·exact h2 x hx
    ·exact htr x (List.mem_of_mem_drop hx)
   ·show a+r.cursor.toNat<=(putAt r t a).length;have h0:=okr.c0;have h1:=okr.c1;omega
def shots (l:List Rule):Nat->Play->List (Int×Int)
 | n,p=>if p.at_<p.text.length then
   match n with
   | 0=>[]
   | n+1=>match playStep l p with
    | none=>[]
    | some q=>((p.at_:Int),first l p.text p.at_)::shots l n q
  else []
theorem shots_end {l:List Rule} {n:Nat} {p:Play} (h:¬ p.at_<p.text.length):shots l n p=[]:=by unfold shots;rw[if_neg h]
theorem shots_next {l:List Rule} {n:Nat} {p q:Play} (h:p.at_<p.text.length) (hs:playStep l p=some q):shots l (n+1) p=((p.at_:Int),first l p.text p.at_)::shots l n q:=by
 rw[shots,if_pos h];simp only[hs]
def shotsF (l:List Rule) (t:List Int):List (Int×Int):=shots l (8*t.length+40) ⟨t,0,0,0⟩
theorem Wr.keepB {w w':World} {b:Nat} (h:Wr w b) (hb:w'.heap[b]? =w.heap[b]?) (hs:w.heap.size<=w'.heap.size):Wr w' b:=
 ⟨Nat.lt_of_lt_of_le h.1 hs,fun i=>by have:=h.2 i;unfold World.frozen? at this ⊢;rw[hb];exact this⟩
structure Told (T:(Nat->Prop)->World->List (Int×Int)->Prop) (g:FuncId) (caps:Array Value):Prop where
 eg:∀ args w,(callFunc g args).run Tryz.prog w=.ok (.enter g args) w
 lt:∀ {O W x},T O W x->∀ b,O b->b<W.heap.size
 keep:∀ {O S:Nat->Prop} {W W' x},T O W x->Aside S W W'->(∀ b,O b->¬ S b)->T O W' x
 call:∀ {O:Nat->Prop} {W:World} {x:List (Int×Int)} {a k:Int},T O W x->x.length<=40000->i64 a->i64 k->Calls Tryz.prog g (#[.int .i64 a,.int .i64 k]++caps) W fun e W'=>
  e=.returned (.tuple #[])/\∃ O':Nat->Prop,T O' W' (x++[(a,k)])/\Aside O' W W'/\∀ b,O' b->O b\/W.heap.size<=b
theorem Buf.re {So So':Nat->Prop} {w:World} {pb:Nat} {t:List Int} {a:Nat} (h:Buf So w pb t a) (hk:∀ b,b<w.heap.size->So b->So' b):Buf So' w pb t a:=by
 obtain⟨ab,L,tz,hB,h1,h2,e⟩:=h;exact⟨ab,L,tz,hB,hk pb hB.ltp h1,hk ab hB.lta h2,e⟩
theorem StAt.aside {So So' ok S:Nat->Prop} {w w':World} {mb pb:Nat} {A:Option Addr} {n c:Nat} {l:List Rule} {B:Option Addr} {h d q:Nat} {A3:Option Addr} {n3 c3:Nat} {t:List Int} {a s p:Nat}
  (H:StAt So ok w mb pb A n c l B h d q A3 n3 c3 t a s p) (e:Aside S w w') (h1:∀ b,b<w.heap.size->So b->¬ S b) (h2:∀ b,ok b->¬ S b) (h3:¬ S mb) (h4:∀ b,b<w.heap.size->So b->So' b):StAt So' ok w' mb pb A n c l B h d q A3 n3 c3 t a s p:=
 ⟨H.M.keep (e.block mb H.M.lt.1 h3) e.size,by
  obtain⟨ab,L,tz,hB,g1,g2,g3⟩:=H.Bf
  exact⟨ab,L,tz,hB.keep (e.block pb hB.ltp (h1 pb hB.ltp g1)) (e.block ab hB.lta (h1 ab hB.lta g2)),h4 pb hB.ltp g1,h4 ab hB.lta g2,g3⟩,H.R.keep (keep_ruleO ok) (e.agree h2),H.H.keep (fam_hd.keep ok) (e.agree h2)⟩
theorem RowR.inOk {α :Type} {R:(Nat->Prop)->World->List Value-> α ->Prop} {e:TypeId} {sz base:Nat} {w:World} {A:Option Addr} {n c:Nat} {l:List α} (F:Fam R) (h0:0<sz) (h:RowR R e sz base w (.slice A n c) l) {ok:Nat->Prop} (hk:∀ b,base<=b->b<w.heap.size->ok b):SlR (R ok) sz ok w A n c l:=by
 obtain⟨ok1,o,h1,h2⟩:=h;obtain⟨A',c',e,hs⟩:=o.sl;cases e;exact (SlR.lt h0 hs).mono (fun vs x hx=>F.mono (fun b hb=>hk b (h1 b hb).1 (h1 b hb).2) hx) (fun b hb=>hk b hb.1 hb.2)
def playSo (K mb:Nat) (O:Nat->Prop):Nat->Prop:=fun b=>K<=b/\b≠mb/\¬ O b
def PlayR (T:(Nat->Prop)->World->List (Int×Int)->Prop) (O0:Nat->Prop) (w:World) (l:List Rule) (t:List Int) (e:Ending) (w':World):Prop:=
 Aside (fun b=>O0 b\/w.heap.size<=b) w w' /\
 if (vmE l t).1≠0 then e=.returned (.tuple #[.agg #[.slice none 0 0,.int .i64 0,.int .i64 0],.agg #[.int .i64 (vmE l t).1,.int .i64 (vmE l t).2]])
 else ∃ (A:Option Addr) (n c s p:Nat) (O:Nat->Prop),e=.returned (.tuple #[.agg #[.slice A n c,.int .i64 s,.int .i64 p],.agg #[.int .i64 0,.int .i64 0]])/\SlR rRune 1 (fun b=>w.heap.size<=b) w' A n c (vmV l t) /\
  T O w' (shotsF l t)/\∀ b,O b->O0 b\/w.heap.size<=b
theorem PlayR.bad {T:(Nat->Prop)->World->List (Int×Int)->Prop} {O0:Nat->Prop} {w:World} {l:List Rule} {t:List Int} {e:Ending} {w':World} {a b:Int} {k:Nat} (hS:Aside (fun b=>O0 b\/w.heap.size<=b) w w') (hv:vmE l t=(a,k)) (ha:a≠0) (hb:b=k)
  (he:e=.returned (.tuple #[.agg #[.slice none 0 0,.int .i64 0,.int .i64 0],.agg #[.int .i64 a,.int .i64 b]])):PlayR T O0 w l t e w':=by
 refine⟨hS,?_⟩;rw[hv,if_pos ha,he,hb]
section
variable {T : (Nat -> Prop) -> World -> List (Int × Int) -> Prop} {g : FuncId} {caps : Array Value} (TT : Told T g caps) {O0 okR : Nat -> Prop} (A : Option Addr) (n c : Nat) (l : List Rule) (X : Option Addr) (m d : Nat) (t : List Int) (w : World)
theorem play_wrong (h:Rules w A n c l) (hr:(wrongRules l).1≠0) :
  Calls Tryz.prog 68 #[.slice A n c,.slice X m d,.func (.func g) #[] caps] w (PlayR T O0 w l t):=by
 have e1:Ext w ((w.alloc (.cells #[.slice none 0 0,.int .i64 0,.int .i64 0] 49)).alloc (.cells #[.int .i64 0,.int .i64 0] 34)):=((Ext.refl w).alloc _).alloc _;have k0:((w.alloc (.cells #[.slice none 0 0,.int .i64 0,.int .i64 0] 49)).alloc (.cells #[.int .i64 0,.int .i64 0] 34)).cell? ⟨w.heap.size,0,none⟩=some (.slice none 0 0):=by simp
 have k1:((w.alloc (.cells #[.slice none 0 0,.int .i64 0,.int .i64 0] 49)).alloc (.cells #[.int .i64 0,.int .i64 0] 34)).cell? ⟨w.heap.size,1,none⟩=some (.int .i64 0):=by simp
 have k2:((w.alloc (.cells #[.slice none 0 0,.int .i64 0,.int .i64 0] 49)).alloc (.cells #[.int .i64 0,.int .i64 0] 34)).cell? ⟨w.heap.size,2,none⟩=some (.int .i64 0):=by simp
 have k3:((w.alloc (.cells #[.slice none 0 0,.int .i64 0,.int .i64 0] 49)).alloc (.cells #[.int .i64 0,.int .i64 0] 34)).cell? ⟨w.heap.size+1,0,none⟩=some (.int .i64 0):=by simp
 have k4:((w.alloc (.cells #[.slice none 0 0,.int .i64 0,.int .i64 0] 49)).alloc (.cells #[.int .i64 0,.int .i64 0] 34)).cell? ⟨w.heap.size+1,1,none⟩=some (.int .i64 0):=by simp
 have wa:=(Wr.new w #[.slice none 0 0,.int .i64 0,.int .i64 0] 49).ext ((Ext.refl _).alloc (.cells #[.int .i64 0,.int .i64 0] 34));have wb:=Wr.new (w.alloc (.cells #[.slice none 0 0,.int .i64 0,.int .i64 0] 49)) #[.int .i64 0,.int .i64 0] 34;rw[World.size_alloc] at wb;have HC:=hid (Wrongs_any A n c l _ (h.ext e1));have hr':((wrongRules l).1 != 0)=true:=by simpa using hr
 have HV:=hid (show vmE l t=wrongRules l by unfold vmE;rw[checkRun_rules hr,if_pos hr]);have HN:=hid hr;clear hr h;obtain⟨WR,hWR⟩:∃ z,z=wrongRules l:=⟨_,rfl⟩
 rw[<- hWR] at HC hr' HV HN;obtain⟨p1,p2⟩:=WR;dsimp only at hr';clear hWR;go_enter Tryz.func68,Tryz.ntmps68;go_wp2_with fail;generalize (w.alloc (.cells #[.slice none 0 0,.int .i64 0,.int .i64 0] 49)).alloc (.cells #[.int .i64 0,.int .i64 0] 34)=w1 at *;go_wp2_with (go_at_call 28;refine HC.out.mono ?_;rintro e w2 ⟨rfl,hx2⟩;have v0:=hx2.cell k0;have v1:=hx2.cell k1;have v2:=hx2.cell k2;have v3:=hx2.cell k3;have v4:=hx2.cell k4;have va:=(wa.ext hx2).2;have vb:=(wb.ext hx2).2;have n1:=wa.lt hx2;have n2:=wb.lt hx2);go_region;go_wp2;refine bodyPost_ret (v:=.tuple #[.agg #[.slice none 0 0,.int .i64 0,.int .i64 0],.agg #[.int .i64 p1,.int .i64 p2]]) (by simp[results,Tryz.results68,go_sem,v0,v1,v2,v3,v4,n1,n2]) rfl ?_;refine PlayR.bad (Aside.ofExt (Ext.drew (Ext.alloc ?_ _))) HV.out HN.out rfl rfl
 repeat (first | exact e1.trans hx2 | refine ext_set ?_ (by omega) _ _)
theorem play_text (h:Rules w A n c l) (ht:Runes w X m d t) (hr:(wrongRules l).1=0) (hx:wrongText t≠0) :
  Calls Tryz.prog 68 #[.slice A n c,.slice X m d,.func (.func g) #[] caps] w (PlayR T O0 w l t):=by
 have e1:Ext w ((w.alloc (.cells #[.slice none 0 0,.int .i64 0,.int .i64 0] 49)).alloc (.cells #[.int .i64 0,.int .i64 0] 34)):=((Ext.refl w).alloc _).alloc _;have k0:((w.alloc (.cells #[.slice none 0 0,.int .i64 0,.int .i64 0] 49)).alloc (.cells #[.int .i64 0,.int .i64 0] 34)).cell? ⟨w.heap.size,0,none⟩=some (.slice none 0 0):=by simp
 have k1:((w.alloc (.cells #[.slice none 0 0,.int .i64 0,.int .i64 0] 49)).alloc (.cells #[.int .i64 0,.int .i64 0] 34)).cell? ⟨w.heap.size,1,none⟩=some (.int .i64 0):=by simp
 have k2:((w.alloc (.cells #[.slice none 0 0,.int .i64 0,.int .i64 0] 49)).alloc (.cells #[.int .i64 0,.int .i64 0] 34)).cell? ⟨w.heap.size,2,none⟩=some (.int .i64 0):=by simp
 have k3:((w.alloc (.cells #[.slice none 0 0,.int .i64 0,.int .i64 0] 49)).alloc (.cells #[.int .i64 0,.int .i64 0] 34)).cell? ⟨w.heap.size+1,0,none⟩=some (.int .i64 0):=by simp
 have k4:((w.alloc (.cells #[.slice none 0 0,.int .i64 0,.int .i64 0] 49)).alloc (.cells #[.int .i64 0,.int .i64 0] 34)).cell? ⟨w.heap.size+1,1,none⟩=some (.int .i64 0):=by simp
 have wa:=(Wr.new w #[.slice none 0 0,.int .i64 0,.int .i64 0] 49).ext ((Ext.refl _).alloc (.cells #[.int .i64 0,.int .i64 0] 34));have wb:=Wr.new (w.alloc (.cells #[.slice none 0 0,.int .i64 0,.int .i64 0] 49)) #[.int .i64 0,.int .i64 0] 34;rw[World.size_alloc] at wb;have HC:=hid (Wrongs_any A n c l _ (h.ext e1));have HT:=hid (fun W (e:Ext w W)=>Text_any X m d t W (ht.ext e));have hr0:=(wrongRules_zero hr).1;have HR:=hid hr0;have HV:=hid (show vmE l t=(wrongText t,0) by unfold vmE;rw[checkRun_text hr,if_pos hx]);have hx':(wrongText t != 0)=true:=by simpa using hx
 have HN:=hid hx;clear hr0 hr hx;generalize wrongText t=p1 at *;go_enter Tryz.func68,Tryz.ntmps68;go_wp2_with fail;generalize (w.alloc (.cells #[.slice none 0 0,.int .i64 0,.int .i64 0] 49)).alloc (.cells #[.int .i64 0,.int .i64 0] 34)=w1 at *
 go_wp2_with (first
  | (go_at_call 28;refine HC.out.mono ?_;rintro e w2 ⟨rfl,hx2⟩;rw[HR.out];have x2:=hx2.alloc (.cells #[.int .i64 0,.int .i64 0] 34))
  | (go_at_call 25;refine (HT.out _ (e1.trans x2)).mono ?_;rintro e w3 ⟨rfl,hx3⟩;have x3:=x2.trans hx3;have v0:=x3.cell k0;have v1:=x3.cell k1;have v2:=x3.cell k2;have v3:=x3.cell k3;have v4:=x3.cell k4;have va:=(wa.ext x3).2;have vb:=(wb.ext x3).2;have n1:=wa.lt x3;have n2:=wb.lt x3))
 refine bodyPost_ret (v:=.tuple #[.agg #[.slice none 0 0,.int .i64 0,.int .i64 0],.agg #[.int .i64 p1,.int .i64 0]]) (by simp[results,Tryz.results68,go_sem,v0,v1,v2,v3,v4,n1,n2]) rfl ?_;refine PlayR.bad (Aside.ofExt ?_) HV.out HN.out rfl rfl
 repeat (first | exact e1.trans x3 | refine ext_set ?_ (by omega) _ _)
end
end Go.Proofs.YthomjcjnalfipaaGreatDoor
