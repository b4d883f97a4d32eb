/- A part of the proofs of the Top laws. -/
import Derived.Test.YthomjcjnalfipaaGreatDoorRows
import Derived.ProofKit
import Derived.OpenShut
import Derived.ChangeOld
import Derived.Deep.Fields
import Derived.Test.YthomjcjnalfipaaGreatDoorYB38
set_option linter.all false
set_option maxRecDepth 100000
set_option maxHeartbeats 6400000
open Go.Lib (hid)
open List (getElem_toArray getElem_cons_zero getElem_cons_succ setIfInBounds_toArray set_cons_zero set_cons_succ)
namespace Go.Proofs.YthomjcjnalfipaaGreatDoor
open Go.RowKit
structure RdAt (w:World) (B lb fb:Nat) (A:Option Addr) (n c:Nat) (L:List Int) (j:Nat) (A1:Option Addr) (m c1:Nat) (l:List Part) (W:World):Prop where
 cur:CurAt W B A n c L j
 row:SlR rRune 1 (fun b=>b<B/\b≠lb) W A n c L
 lv:W.cell? ⟨lb,0,none⟩=some (.slice A1 m c1)
 out:RowR rPt 111 16 (B+1) W (.slice A1 m c1) l
 f0:W.cell? ⟨fb,0,none⟩=some (.int .i64 0)
 f1:W.cell? ⟨fb,1,none⟩=some (.int .i64 0)
 lz:∀ i,W.frozen? ⟨lb,i,none⟩=false
 fz:∀ i,W.frozen? ⟨fb,i,none⟩=false
 lt:lb<W.heap.size/\fb<W.heap.size
 ne:w.heap.size<=lb/\lb<fb/\fb<B
 ext:Ext w W
theorem fz_keep {W W':World} {b:Nat} (h:∀ i,W.frozen? ⟨b,i,none⟩=false) (hb:W'.heap[b]? =W.heap[b]?):∀ i,W'.frozen? ⟨b,i,none⟩=false:=fun i=>by
 have:=h i;simp only[World.frozen?] at this ⊢;rw[hb];exact this
section
variable {w W W' : World} {B lb fb : Nat} {A A1 A2 : Option Addr} {n c j i m c1 m2 c2 : Nat} {L : List Int} {l l2 : List Part}
theorem RdAt.ext' (h:RdAt w B lb fb A n c L j A1 m c1 l W) (e:Ext W W'):RdAt w B lb fb A n c L j A1 m c1 l W':=
 ⟨h.cur.ext e,h.row.ext (keep_rune _) e,e.cell h.lv,h.out.ext fam_pt e,e.cell h.f0,e.cell h.f1,fz_keep h.lz (e.block h.lt.1),fz_keep h.fz (e.block h.lt.2),by have:=e.size;have:=h.lt;omega,h.ne,h.ext.trans e⟩
theorem RdAt.mv (h:RdAt w B lb fb A n c L j A1 m c1 l W) (x:Mv B i W W') (hi:i<=n):RdAt w B lb fb A n c L i A1 m c1 l W':=by
 have hne:=h.ne;have hlt:=h.lt;have e:Agree (fun b=>b≠B) W W':=x.agree
 exact⟨h.cur.mv x hi,h.row.keep (keep_rune _) (e.mono fun _ h=>Nat.ne_of_lt h.1),e.cell (by show lb≠B;omega) h.lv,h.out.mv fam_pt x (by omega),e.cell (by show fb≠B;omega) h.f0,e.cell (by show fb≠B;omega) h.f1,
  fz_keep h.lz (e lb (by show lb≠B;omega) hlt.1),fz_keep h.fz (e fb (by show fb≠B;omega) hlt.2),by have:=x.size;omega,hne,Mv.out h.ext (by omega) x⟩
theorem RdAt.turn (h:RdAt w B lb fb A n c L j A1 m c1 l W) (ag:Agree (fun b=>b<=B/\b≠lb) W W') (hs:W.heap.size<=W'.heap.size) (hlv:W'.cell? ⟨lb,0,none⟩=some (.slice A2 m2 c2)) (hlz:∀ i,W'.frozen? ⟨lb,i,none⟩=false)
  (o:RowR rPt 111 16 (B+1) W' (.slice A2 m2 c2) l2) (hx:Ext w W'):RdAt w B lb fb A n c L j A2 m2 c2 l2 W':=by
 have hne:=h.ne;have hlt:=h.lt;have hc:=h.cur;have hB:B<=B/\B≠lb:=by omega
 have hf:fb<=B/\fb≠lb:=by omega
 have bB:=ag B hB hc.lt.1;have bf:=ag fb hf hlt.2;have hr:SlR rRune 1 (fun b=>b<B/\b≠lb) W' A n c L:=h.row.keep (keep_rune _) (ag.mono fun b hb=>⟨Nat.le_of_lt hb.1,hb.2⟩)
 exact⟨⟨(World.cell?_of_block bB).trans hc.c0,(World.cell?_of_block bB).trans hc.c1,fz_keep hc.fz bB,by have:=hc.lt;omega,hr.mono (fun _ _ h=>h) (fun _ h=>Nat.ne_of_lt h.1),hc.nn,hc.le,hc.nb,fun q v hv=>hc.only q v (by rw[<- hv];exact (World.cell?_of_block bB).symm)⟩,
  hr,hlv,o,(World.cell?_of_block bf).trans h.f0,(World.cell?_of_block bf).trans h.f1,hlz,fz_keep h.fz bf,by omega,hne,hx⟩
theorem RdAt.app (h:RdAt w B lb fb A n c L j A1 m c1 l W) {w6:World} (hg:W.grownBy w6 (Value.slice A1 m c1).ownBlock) (o:RowR rPt 111 16 (B+1) w6 (.slice A2 m2 c2) l2) :
  w6.cell? ⟨lb,0,none⟩=some (.slice A1 m c1)/\(∀ i,w6.frozen? ⟨lb,i,none⟩=false)/\lb<w6.heap.size/\RdAt w B lb fb A n c L j A2 m2 c2 l2 (w6.setCell ⟨lb,0,none⟩ (.slice A2 m2 c2)):=by
 have hne:=h.ne;have hlt:=h.lt;have low:∀ b,b<=B->b<W.heap.size->w6.heap[b]? =W.heap[b]?:=fun b hb hl=>hg.block b hl (fun e=>by have:=(h.out.lt b e.symm).1;omega);have bl:=low lb (by omega) hlt.1;have c6:=(World.cell?_of_block bl).trans h.lv;have z6:=fz_keep h.lz bl;have sz:=hg.size
 refine⟨c6,z6,by omega,h.turn (fun b hb hl=>?_) (by rw[size_set];exact sz) (World.cell?_setCell_same _ _ _ c6) (fun i=>by rw[World.frozen?_setCell];exact z6 i)
  (o.agree fam_pt ((agree_set lb 0 w6 _).mono fun b hb=>by omega) (by rw[size_set];exact Nat.le_refl _)) ((h.ext.grown hg (fun k hk=>by have:=(h.out.lt k hk).1;omega)).setCell (p:=⟨lb,0,none⟩) hne.1 _)⟩
 rw[heap_setB hb.2];exact low b hb.1 hl
structure RdB (w:World) (B lb fb:Nat) (v:Value) (W:World):Prop where
 lv:W.cell? ⟨lb,0,none⟩=some v
 f0:W.cell? ⟨fb,0,none⟩=some (.int .i64 0)
 f1:W.cell? ⟨fb,1,none⟩=some (.int .i64 0)
 lz:∀ i,W.frozen? ⟨lb,i,none⟩=false
 fz:∀ i,W.frozen? ⟨fb,i,none⟩=false
 lt:lb<W.heap.size/\fb<W.heap.size
 ne:w.heap.size<=lb/\lb<fb/\fb<B
 ext:Ext w W
theorem RdAt.b (h:RdAt w B lb fb A n c L j A1 m c1 l W):RdB w B lb fb (.slice A1 m c1) W:=⟨h.lv,h.f0,h.f1,h.lz,h.fz,h.lt,h.ne,h.ext⟩
theorem RdB.mv {v:Value} (h:RdB w B lb fb v W) (x:Mv B i W W'):RdB w B lb fb v W':=by
 have hne:=h.ne;have hlt:=h.lt;have e:Agree (fun b=>b≠B) W W':=x.agree
 exact⟨e.cell (by show lb≠B;omega) h.lv,e.cell (by show fb≠B;omega) h.f0,e.cell (by show fb≠B;omega) h.f1,
  fz_keep h.lz (e lb (by show lb≠B;omega) hlt.1),fz_keep h.fz (e fb (by show fb≠B;omega) hlt.2),by have:=x.size;omega,hne,Mv.out h.ext (by omega) x⟩
theorem RdB.fault {v:Value} (h:RdB w B lb fb v W) (er p:Int) {t:TypeId} (hW:W'=((W.setCell ⟨fb,0,none⟩ (.int .i64 er)).setCell ⟨fb,1,none⟩ (.int .i64 p)).alloc (.cells #[.int .i64 er,.int .i64 p] t)) :
  W'.cell? ⟨fb,0,none⟩=some (.int .i64 er)/\W'.cell? ⟨lb,0,none⟩=some v/\(∀ i,W'.frozen? ⟨lb,i,none⟩=false) /\
   ∀ W2,W2=W'.setCell ⟨lb,0,none⟩ (.slice none 0 0)->W2.cell? ⟨lb,0,none⟩=some (.slice none 0 0)/\W2.cell? ⟨fb,0,none⟩=some (.int .i64 er)/\W2.cell? ⟨fb,1,none⟩=some (.int .i64 p)/\Ext w W2:=by
 have hne:=h.ne;have hlt:=h.lt;have hf:lb≠fb:=by omega
 obtain⟨W1,hW1⟩:∃ W1,W1=(W.setCell ⟨fb,0,none⟩ (.int .i64 er)).setCell ⟨fb,1,none⟩ (.int .i64 p):=⟨_,rfl⟩
 have a0:W1.cell? ⟨fb,0,none⟩=some (.int .i64 er):=by rw[hW1];exact set_other (set_same h.f0) (by omega)
 have a1:W1.cell? ⟨fb,1,none⟩=some (.int .i64 p):=by rw[hW1];exact set_same (set_other h.f1 (by omega))
 have hbl:W1.heap[lb]? =W.heap[lb]?:=by rw[hW1,heap_setB hf,heap_setB hf]
 have a2:W1.cell? ⟨lb,0,none⟩=some v:=(World.cell?_of_block hbl).trans h.lv;have a3:=fz_keep h.lz hbl;have sz:W1.heap.size=W.heap.size:=by rw[hW1,size_set,size_set]
 have x1:Ext w W1:=by rw[hW1];exact (h.ext.setCell (p:=⟨fb,0,none⟩) (by show w.heap.size<=fb;omega) _).setCell (p:=⟨fb,1,none⟩) (by show w.heap.size<=fb;omega) _
 rw[<- hW1] at hW;have e:Ext W1 W':=by rw[hW];exact (Ext.refl _).alloc _
 refine⟨e.cell a0,e.cell a2,fz_keep a3 (e.block (by omega)),fun W2 h2=>?_⟩;subst h2;exact⟨set_same (e.cell a2),(World.cell?_of_block (heap_setB (Ne.symm hf))).trans (e.cell a0),(World.cell?_of_block (heap_setB (Ne.symm hf))).trans (e.cell a1),(x1.trans e).setCell (p:=⟨lb,0,none⟩) hne.1 _⟩
end
def RdPost (w:World) (V:PR (List Part)) (e:Ending) (w':World):Prop:=
 ∃ A c,e=.returned (.tuple #[.slice A (resR V).1.length c,.agg #[.int .i64 (resR V).2.1,.int .i64 (resR V).2.2]])/\Pts (fun b=>w.heap.size<=b) w' A (resR V).1.length c (resR V).1/\Ext w w'
theorem RdPost.bad {w w':World} {er:Int} {p:Nat} {q:Int} (hq:q=p) (x:Ext w w'):RdPost w (.fail er p) (.returned (.tuple #[.slice none 0 0,.agg #[.int .i64 er,.int .i64 q]])) w':=by
 subst hq;exact⟨none,0,rfl,SlR.nil _ _ _ _ _ _ (by unfold maxLen;omega),x⟩
theorem RdPost.ok {w w':World} {l:List Part} {j:Nat} {A:Option Addr} {c base:Nat} (h:RowR rPt 111 16 base w' (.slice A l.length c) l) (hb:w.heap.size<=base) (x:Ext w w'):RdPost w (.ok l j) (.returned (.tuple #[.slice A l.length c,.agg #[.int .i64 0,.int .i64 0]])) w':=by
 obtain⟨A',c',e,hs⟩:=h.sl fam_pt;cases e;exact⟨A,c,rfl,hs.mono (fun _ _ hx=>fam_pt.mono (fun b hb'=>Nat.le_trans hb hb') hx) (fun b hb'=>Nat.le_trans hb hb'),x⟩
theorem T_part:ElemT Tryz.prog 65 111 16 232:=elemT Tryz.underlying65 (z:=.agg #[.int .i64 0,.string ⟨#[]⟩,.slice none 0 0,.int .i64 0,.bool false,.bool false,.slice none 0 0,.slice none 0 0,.slice none 0 0,.int .i64 0,.bool false,.bool false,.slice none 0 0,.slice none 0 0,.slice none 0 0,.int .i64 0]) (by kernel_rfl) rfl (by omega)
theorem pt_one {tk:Nat->Prop} {w:World} {p:Part} {A10:Option Addr} {n10 c10:Nat} {A11:Option Addr} {n11 c11:Nat} {A12:Option Addr} {n12 c12:Nat} {A13:Option Addr} {n13 c13:Nat} {A14:Option Addr} {n14 c14:Nat} {A15:Option Addr} {n15 c15:Nat} {A16:Option Addr} {n16 c16:Nat} {t:TypeId} (hp:PtA tk w A10 n10 c10 p) (hl:SdA tk w A11 n11 c11 A12 n12 c12 A13 n13 c13 p.left) (hr:SdA tk w A14 n14 c14 A15 n15 c15 A16 n16 c16 p.right) :
  SlR (rPt fun b=>tk b/\b<w.heap.size) 16 top (w.alloc (.cells #[.int .i64 p.kind,.string p.name,.slice A10 n10 c10,.int .i64 p.dir,.bool p.left.st,.bool p.left.en,.slice A11 n11 c11,.slice A12 n12 c12,.slice A13 n13 c13,.int .i64 p.left.cursor,.bool p.right.st,.bool p.right.en,.slice A14 n14 c14,.slice A15 n15 c15,.slice A16 n16 c16,.int .i64 p.right.cursor] t)) (some ⟨w.heap.size,0,none⟩) 1 1 [p]:=
 SlR.fresh rfl (by unfold maxLen;omega) fun k u hu=>by
  have e:=(Ext.refl w).alloc (.cells #[.int .i64 p.kind,.string p.name,.slice A10 n10 c10,.int .i64 p.dir,.bool p.left.st,.bool p.left.en,.slice A11 n11 c11,.slice A12 n12 c12,.slice A13 n13 c13,.int .i64 p.left.cursor,.bool p.right.st,.bool p.right.en,.slice A14 n14 c14,.slice A15 n15 c15,.slice A16 n16 c16,.int .i64 p.right.cursor] t)
  match k,hu with
  | 0,hu=>
   cases hu
   refine⟨[.int .i64 p.kind,.string p.name,.slice A10 n10 c10,.int .i64 p.dir,.bool p.left.st,.bool p.left.en,.slice A11 n11 c11,.slice A12 n12 c12,.slice A13 n13 c13,.int .i64 p.left.cursor,.bool p.right.st,.bool p.right.en,.slice A14 n14 c14,.slice A15 n15 c15,.slice A16 n16 c16,.int .i64 p.right.cursor],rfl,
    ⟨A10,n10,c10,sdV A11 n11 c11 A12 n12 c12 A13 n13 c13 p.left,sdV A14 n14 c14 A15 n15 c15 A16 n16 c16 p.right,rfl,⟨hp.kb,hp.db,hp.nm,(SlR.lt (by omega) hp.set).ext (keep_span _) e⟩,⟨_,_,_,_,_,_,_,_,_,rfl,hl.lt.ext e⟩,⟨_,_,_,_,_,_,_,_,_,rfl,hr.lt.ext e⟩⟩,fun j v hv=>?_⟩
   match j,hv with
   | 0,hv=>simpa using hv
   | 1,hv=>simpa using hv
   | 2,hv=>simpa using hv
   | 3,hv=>simpa using hv
   | 4,hv=>simpa using hv
   | 5,hv=>simpa using hv
   | 6,hv=>simpa using hv
   | 7,hv=>simpa using hv
   | 8,hv=>simpa using hv
   | 9,hv=>simpa using hv
   | 10,hv=>simpa using hv
   | 11,hv=>simpa using hv
   | 12,hv=>simpa using hv
   | 13,hv=>simpa using hv
   | 14,hv=>simpa using hv
   | 15,hv=>simpa using hv
theorem leaves_congr {P:Program} {fn:Func} {t1 t2:Array Value} (h:results fn t1=results fn t2) {R:Ending->World->Prop}:∀ (ds:List Deferred) (u:FrameMode) (w:World),Leaves P fn t1 R ds u w->Leaves P fn t2 R ds u w
 | [],.returning,w,h1=>by
  obtain⟨v,h2,h3⟩:=h1;exact⟨v,by rw[<- h];exact h2,h3⟩
 | [],.panicking _,w,h1=>h1
 | [],.run,w,h1=>h1
 | d::ds,u,w,h1=>by
  obtain⟨h0,fv,cap,f,args,h2,h3,h4⟩:=h1;refine⟨h0,fv,cap,f,args,h2,h3,h4.mono ?_⟩;intro e u' w' h5
  cases e with
  | returned v=>exact leaves_congr h ds _ _ h5
  | panicked ch=>exact leaves_congr h ds _ _ h5
  | outgrown=>exact h5
theorem door_put {R:Ending->World->Prop} {i:Nat} (h2:i≠2) (h3:i≠3) (v:Value) (c:List PanicEntry) (a:Act) (w:World) (h:bodyPostD Tryz.prog Tryz.f22 R (.panic c) (a.put (some i) v) w):bodyPostD Tryz.prog Tryz.f22 R (.panic c) a w:=by
 refine leaves_congr ?_ _ _ _ h;simp[results,Tryz.results22,Act.put,Array.getD_eq_getD_getElem?,Array.getElem?_setIfInBounds,h2,h3]
theorem rd_start (w w1:World) (A:Option Addr) (n c:Nat) (L:List Int) (x:Ext ((w.alloc (.cells #[.slice none 0 0] 65)).alloc (.cells #[.int .i64 0,.int .i64 0] 34)) w1)
  (sl:SlR rRune 1 (fun b=>((w.alloc (.cells #[.slice none 0 0] 65)).alloc (.cells #[.int .i64 0,.int .i64 0] 34)).heap.size<=b) w1 A n c L) (hnn:∀ r∈L,0<=r) (hn:n<=1048576) :
  RdAt w w1.heap.size w.heap.size (w.heap.size+1) A n c L 0 none 0 0 [] (w1.alloc (.cells #[.slice A n c,.int .i64 0] 104)):=by
 obtain⟨wa,hwa⟩:∃ wa,wa=w.alloc (.cells #[.slice none 0 0] 65):=⟨_,rfl⟩
 have sza:wa.heap.size=w.heap.size+1:=by rw[hwa];simp
 have ca:wa.cell? ⟨w.heap.size,0,none⟩=some (.slice none 0 0):=by rw[hwa];exact cell_new _ _ _ 0 _ rfl
 have za:∀ i,wa.frozen? ⟨w.heap.size,i,none⟩=false:=by rw[hwa];intro i;simp
 have xa:Ext w wa:=by rw[hwa];exact (Ext.refl w).alloc _
 rw[<- hwa] at x sl;obtain⟨wb,hwb⟩:∃ wb,wb=wa.alloc (.cells #[.int .i64 0,.int .i64 0] 34):=⟨_,rfl⟩
 have szb:wb.heap.size=w.heap.size+2:=by rw[hwb];simp[sza]
 have cb0:wb.cell? ⟨w.heap.size+1,0,none⟩=some (.int .i64 0):=by rw[hwb,<- sza];exact cell_new _ _ _ 0 _ rfl
 have cb1:wb.cell? ⟨w.heap.size+1,1,none⟩=some (.int .i64 0):=by rw[hwb,<- sza];exact cell_new _ _ _ 1 _ rfl
 have zb:∀ i,wb.frozen? ⟨w.heap.size+1,i,none⟩=false:=by rw[hwb,<- sza];intro i;simp
 have xb:Ext wa wb:=by rw[hwb];exact (Ext.refl wa).alloc _
 rw[<- hwb] at x sl;have hsz:=x.size;have e:=(Ext.refl w1).alloc (.cells #[.slice A n c,.int .i64 0] 104);have sl2:=SlR.lt (by omega) sl;have hx:=x.trans e;refine⟨⟨cell_new _ _ _ 0 _ rfl,cell_new _ _ _ 1 _ rfl,fun i=>by simp,by simp,?_,hnn,by omega,hn,fun i v hv=>?_⟩,?_,hx.cell (xb.cell ca),RowR.nil _ _ _ _ _,hx.cell cb0,hx.cell cb1,fz_keep za ((xb.trans hx).block (by omega)),fz_keep zb (hx.block (by omega)),by simp;omega,by omega,(xa.trans xb).trans hx⟩
 ·exact (sl2.ext (keep_rune _) e).mono (fun _ _ h=>h) (fun b hb=>by omega)
 ·match i with
  | 0=>omega
  | 1=>omega
  | i+2=>
   have hb:(w1.alloc (.cells #[.slice A n c,.int .i64 0] 104)).heap[w1.heap.size]? =some (.cells #[.slice A n c,.int .i64 0] 104):=heap_alloc_new w1 _;unfold World.cell? at hv;dsimp only at hv;rw[hb] at hv;cases hv
 ·exact (sl2.ext (keep_rune _) e).mono (fun _ _ h=>h) (fun b hb=>by omega)
theorem Read_any (s:ByteArray) (w:World) (hs:s.size<=1048576) :
  Calls Tryz.prog 22 #[.string s] w fun e w'=>RdPost w (readF (decodeF s)) e w':=by
 have hmf:∀ (fn:Fn) (first cap:Array Value) (w:World),(Instr.makeFunc fn first cap).run Tryz.prog w=.ok (.func fn first cap) w:=fun _ _ _ _=>rfl;have CD:=hid (fun W=>Decode_any s W hs);obtain⟨L,hL⟩:∃ L,L=decodeF s:=⟨_,rfl⟩
 have HNN:=hid (show ∀ r∈L,0<=r by rw[hL];exact decodeF_nn s);have HLen:Hid (L.length<=1048576):=hid (by rw[hL];exact Nat.le_trans (decodeF_len s) hs);rw[<- hL] at CD ⊢;have HNZ:=hid (readF_nz L);obtain⟨T,hT⟩:∃ T,readF L=T:=⟨_,rfl⟩
 rw[hT] at HNZ ⊢;unfold readF at hT;clear hL hs;have E0:=hid (((Ext.refl w).alloc (.cells #[.slice none 0 0] 65)).alloc (.cells #[.int .i64 0,.int .i64 0] 34));obtain⟨n,hn⟩:∃ n,L.length=n:=⟨_,rfl⟩
 have HL:=hid hn;have hbig:16000<n\/¬ 16000<n:=Nat.lt_or_ge 16000 n |>.imp id (by omega)
 have ARM:∀ (W w1:World) (A:Option Addr) (c:Nat) (lbv:Nat),True:=fun _ _ _ _ _=>trivial;clear ARM;rw[hn] at hT HLen;clear hn;rcases hbig with hbig | hbig
 ·rw[if_pos hbig] at hT;subst hT;have CF:=hid (fun W=>Fail_any 4 0 W);go_enter_defers Tryz.func22,Tryz.ntmps22
  go_wp2_with (first
   | (go_at_call 11;((with_reducible refine (CD.out _).mono ?_);rintro e w1 ⟨v,rfl,o1,x1⟩;obtain⟨A,c,rfl,sl⟩:=o1.sl;rw[HL.out] at sl ⊢;have R0:=hid (rd_start w w1 A n c L x1 sl HNN.out HLen.out);clear o1 x1 sl))
   | (go_at_call 44;((with_reducible refine (CF.out _).mono ?_);rintro e wz ⟨rfl,rfl⟩)))
  generalize hlb:w.heap.size=lb at *;generalize hfb:lb+1=fb at *;generalize hBe:w1.heap.size=B at *;clear hlb hfb hBe;have Z:=R0.out.b;refine leaves_cons (f:=43) (args:=#[.pointer (some ⟨fb,0,none⟩)]) (by simp) (by simp[go_sem]) ?_;refine (caught_panicking fb 4 0 0 0 [] _ Z.f0 Z.f1 Z.fz ⟨Z.lt.2,Nat.ne_of_lt Z.lt.2⟩).mono ?_;rintro e u' wq ⟨rfl,rfl,hq⟩;obtain⟨g0,g1,gz,g2⟩:=Z.fault 4 0 hq;dsimp only;rw[show settle (FrameMode.panicking [{ v:=.iface 142 (.agg #[.int .i64 4,.int .i64 0]),recovered:=true }])=FrameMode.returning from rfl];refine leaves_cons (f:=42) (args:=#[.pointer (some ⟨fb,0,none⟩),.pointer (some ⟨lb,0,none⟩)]) (by simp) (by simp[go_sem]) ?_;refine (read1_bad fb lb 4 _ _ _ g0 (by omega) g1 gz).mono ?_;rintro e u' wq2 ⟨rfl,rfl,hq2⟩;obtain⟨r0,r1,r2,rx⟩:=g2 _ hq2;have HP:=RdPost.bad (w:=w) (er:=4) (q:=0) rfl rx;simp[Leaves,settle,results,Tryz.results22,go_sem,r0,r1,r2];exact HP
 ·rw[if_neg hbig] at hT;go_enter_defers Tryz.func22,Tryz.ntmps22
  go_wp2_with (first
   | (go_at_call 11;((with_reducible refine (CD.out _).mono ?_);rintro e w1 ⟨v,rfl,o1,x1⟩;obtain⟨A,c,rfl,sl⟩:=o1.sl;rw[HL.out] at sl ⊢;have R0:=hid (rd_start w w1 A n c L x1 sl HNN.out HLen.out);clear o1 x1 sl)))
  generalize hlb:w.heap.size=lb at *;generalize hfb:lb+1=fb at *;generalize hBe:w1.heap.size=B at *;clear hlb hfb hBe;have hn16:n<=16000:=by omega
  have hsp0:spaceF L 0<=n:=by have:=spaceF_le (L:=L) (k:=0) (by omega);have:=HL.out;omega
  have CS0:=hid (fun W (hW:CurAt W B A n c L 0)=>space_any B A n c L 0 W hW);generalize spaceF L 0=j0 at *;have HT0:=hid hT;have HF0:Hid (n<n+1+j0):=hid (by omega);clear hT hbig
  go_wp2_with (first
   | (go_at_call 45;((with_reducible refine (CS0.out _ R0.out.cur).mono ?_);rintro e w1 ⟨rfl,m1⟩;have R1:=hid (R0.out.mv m1 hsp0);(try clear k1 kz kl q0 qz ql);have k1:=R1.out.cur.c1;have kz:=R1.out.cur.fz;have kl:=R1.out.cur.lt;have q0:=R1.out.lv;have qz:=R1.out.lz;have ql:=R1.out.lt;clear m1)))
  clear k1 kz kl q0 qz ql;go_loopw [] (fun wr=>∃ (f j q:Nat) (A1:Option Addr) (c1:Nat) (l:List Part),Hid (l.length=q)/\Hid (n<f+j)/\j<=n/\q<=200/\Hid (readN L f l j=T)/\Hid (RdAt w B lb fb A n c L j A1 q c1 l wr)) (fun wr=>n-atOf B wr);case atStart=>exact⟨_,j0,0,none,0,[],hid rfl,HF0,hsp0,by omega,HT0,R1⟩
  case round=>
   clear HT0 HF0 R0 R1 CS0;obtain⟨f',j,q,A1,c1,l,HQ,HF,hj,hl,HT,R0⟩:=hrel;obtain⟨f,rfl⟩:∃ f,f'=f+1:=⟨f'-1,by have:=HF.out;omega⟩
   have hT:=HT.out;unfold readN at hT;have HA:=hid R0.out.cur.at_
   (try clear k1 kz kl q0 qz ql)
   have k1:=R0.out.cur.c1;have kz:=R0.out.cur.fz;have kl:=R0.out.cur.lt;have q0:=R0.out.lv;have qz:=R0.out.lz;have ql:=R0.out.lt;have CP:=hid (fun W (hW:CurAt W B A n c L (j))=>Peek_any B A n c L (j) W hW);clear HT;by_cases h0:lookF L j<0
   ·rw[if_pos h0] at hT;subst hT;generalize lookF L j=r at *
    go_wp2_with (first
     | (go_at_call 46;((with_reducible refine (CP.out _ R0.out.cur).mono ?_);rintro e w1 ⟨rfl,x1⟩;have R1:=hid (R0.out.ext' x1);(try clear k1 kz kl q0 qz ql);have k1:=R1.out.cur.c1;have kz:=R1.out.cur.fz;have kl:=R1.out.cur.lt;have q0:=R1.out.lv;have qz:=R1.out.lz;have ql:=R1.out.lt;clear x1)))
    have f0:=R1.out.f0;have f1:=R1.out.f1;have fz:=R1.out.fz;have hlf:lb≠fb:=by have:=R1.out.ne;omega
    have hfl:fb≠lb:=Ne.symm hlf;have e1:=setCell_self R1.out.lv;have e2:=setCell_self f0;have e3:=setCell_self f1;have R2:=hid (R1.out.ext' (Ext.refl _).drew);have r0:=R2.out.lv;have r1:=R2.out.f0;have r2:=R2.out.f1;have HP:=hid (RdPost.ok (w:=w) (l:=l) (j:=j) (A:=A1) (c:=c1) (base:=B+1) (by rw[HQ.out];exact R2.out.out) (by have:=R2.out.ne;omega) R2.out.ext);rw[HQ.out] at HP;go_region
    all_goals
     try rw[e1,e2,e3]
     go_wp2;refine leaves_cons (f:=43) (args:=#[.pointer (some ⟨fb,0,none⟩)]) (by simp) (by simp[go_sem]) ?_;refine (caught_idle ⟨fb,0,none⟩ _).mono ?_;rintro e u' wq ⟨rfl,rfl,rfl⟩;dsimp only;rw[show settle FrameMode.returning=FrameMode.returning from rfl];refine leaves_cons (f:=42) (args:=#[.pointer (some ⟨fb,0,none⟩),.pointer (some ⟨lb,0,none⟩)]) (by simp) (by simp[go_sem]) ?_;refine (read1_ok fb lb _ _ r1).mono ?_;rintro e u' wq2 ⟨rfl,rfl,rfl⟩;simp[Leaves,settle,results,Tryz.results22,go_sem,r0,r1,r2];exact HP.out
   ·rw[if_neg h0] at hT;have hjn:j<n:=by have:=look_lt0 (L:=L) (k:=j) (by omega);have:=HL.out;omega
    rw[HQ.out] at hT;by_cases h200:q=200
    ·rw[if_pos h200] at hT;subst hT h200;have CF:=hid (fun W=>Fail_any 5 j W);generalize lookF L j=r at *
     go_wp2_with (first
      | (go_at_call 46;((with_reducible refine (CP.out _ R0.out.cur).mono ?_);rintro e w1 ⟨rfl,x1⟩;have R1:=hid (R0.out.ext' x1);(try clear k1 kz kl q0 qz ql);have k1:=R1.out.cur.c1;have kz:=R1.out.cur.fz;have kl:=R1.out.cur.lt;have q0:=R1.out.lv;have qz:=R1.out.lz;have ql:=R1.out.lt;clear x1))
      | (go_at_call 44;((with_reducible refine (CF.out _).mono ?_);rintro e wz ⟨rfl,rfl⟩)))
     have Z:=R1.out.b;refine leaves_cons (f:=43) (args:=#[.pointer (some ⟨fb,0,none⟩)]) (by simp) (by simp[go_sem]) ?_;refine (caught_panicking fb 5 (j:Int) 0 0 [] _ Z.f0 Z.f1 Z.fz ⟨Z.lt.2,Nat.ne_of_lt Z.lt.2⟩).mono ?_;rintro e u' wq ⟨rfl,rfl,hq⟩;obtain⟨g0,g1,gz,g2⟩:=Z.fault 5 (j:Int) hq;dsimp only;rw[show settle (FrameMode.panicking [{ v:=.iface 142 (.agg #[.int .i64 5,.int .i64 (j:Int)]),recovered:=true }])=FrameMode.returning from rfl];refine leaves_cons (f:=42) (args:=#[.pointer (some ⟨fb,0,none⟩),.pointer (some ⟨lb,0,none⟩)]) (by simp) (by simp[go_sem]) ?_;refine (read1_bad fb lb 5 _ _ _ g0 (by omega) g1 gz).mono ?_;rintro e u' wq2 ⟨rfl,rfl,hq2⟩;obtain⟨r0,r1,r2,rx⟩:=g2 _ hq2;have HP:=RdPost.bad (w:=w) (er:=5) (q:=(j:Int)) rfl rx;simp[Leaves,settle,results,Tryz.results22,go_sem,r0,r1,r2];exact HP
    ·rw[if_neg h200] at hT;have CX:=hid (fun W (hW:CurAt W B A n c L j)=>part_any B A n c L j W hW hn16 hjn);have HAX:=hid (partF_adv (L:=L) (k:=j) (by have:=HL.out;omega));have HNX:=hid (partF_nz (L:=L) (k:=j) (by have:=HL.out;omega));obtain⟨X,hX⟩:∃ X,X=partF L j:=⟨_,rfl⟩
     rw[<- hX] at hT CX HAX HNX;clear hX;generalize lookF L j=r at *;have n200:((q:Int)==200)=false:=by simp;omega
     have hq200:q<200:=by omega
     clear h200 hl
     go_wp2_with (first
      | (go_at_call 46;((with_reducible refine (CP.out _ R0.out.cur).mono ?_);rintro e w1 ⟨rfl,x1⟩;have R1:=hid (R0.out.ext' x1);(try clear k1 kz kl q0 qz ql);have k1:=R1.out.cur.c1;have kz:=R1.out.cur.fz;have kl:=R1.out.cur.lt;have q0:=R1.out.lv;have qz:=R1.out.lz;have ql:=R1.out.lt;clear x1)))
     have R2:=hid (R1.out.ext' (Ext.refl _).drew);refine wp_region_E (fun w':World=>w'.cell? ⟨lb,0,none⟩=some (.slice A1 q c1)) 5 (by kernel_rfl) ?_;have hS:(fun w':World=>w'.cell? ⟨lb,0,none⟩=some (.slice A1 q c1)) _:=R2.out.lv;clear k1 kz kl q0 qz ql;refine wpE_take [4] (i:=0) (v:=?vpp0) rfl (by kernel_rfl) (by kernel_rfl) (by kernel_rfl) (by kernel_rfl) (by kernel_rfl) (fun c a w h=>door_put (by decide) (by decide) _ c a w h) hS (Or.inl ⟨by rfl,?hypp0⟩) ?restpp0
     case hypp0=>
      intro w' hSw
      try dsimp only at hSw
      go_simp;with_reducible rfl
     simp only[Act.put,getElem_toArray,getElem_cons_zero,getElem_cons_succ,setIfInBounds_toArray,set_cons_zero,set_cons_succ];refine wpE_take [4,3,2] (i:=1) (v:=?vpp1) rfl (by kernel_rfl) (by kernel_rfl) (by kernel_rfl) (by kernel_rfl) (by kernel_rfl) (fun c a w h=>door_put (by decide) (by decide) _ c a w h) hS (Or.inl ⟨by rfl,?hypp1⟩) ?restpp1
     case hypp1=>
      intro w' hSw
      try dsimp only at hSw
      go_simp;with_reducible rfl
     simp only[Act.put,getElem_toArray,getElem_cons_zero,getElem_cons_succ,setIfInBounds_toArray,set_cons_zero,set_cons_succ];refine wpE_one (i:=2) rfl (by kernel_rfl) (fun K1 hK1=>?_);go_simp;go_at_call 47;refine (CX.out _ R2.out.cur).mono ?_;intro e w5 h5
     cases X with
     | fail er qe=>
      simp only[PR.bind] at hT;subst hT;obtain⟨rfl,qz,mz⟩:=h5;have hnz:=HNX.out _ _ rfl;have Z:=R2.out.b.mv mz;refine leaves_cons (f:=43) (args:=#[.pointer (some ⟨fb,0,none⟩)]) (by simp) (by simp[go_sem]) ?_;refine (caught_panicking fb er (qe:Int) 0 0 [] _ Z.f0 Z.f1 Z.fz ⟨Z.lt.2,Nat.ne_of_lt Z.lt.2⟩).mono ?_;rintro e u' wq ⟨rfl,rfl,hq⟩;obtain⟨g0,g1,gz,g2⟩:=Z.fault er (qe:Int) hq;dsimp only;rw[show settle (FrameMode.panicking [{ v:=.iface 142 (.agg #[.int .i64 er,.int .i64 (qe:Int)]),recovered:=true }])=FrameMode.returning from rfl];refine leaves_cons (f:=42) (args:=#[.pointer (some ⟨fb,0,none⟩),.pointer (some ⟨lb,0,none⟩)]) (by simp) (by simp[go_sem]) ?_;refine (read1_bad fb lb er _ _ _ g0 hnz g1 gz).mono ?_;rintro e u' wq2 ⟨rfl,rfl,hq2⟩;obtain⟨r0,r1,r2,rx⟩:=g2 _ hq2;have HP:=RdPost.bad (w:=w) (er:=er) (q:=(qe:Int)) rfl rx;simp[Leaves,settle,results,Tryz.results22,go_sem,r0,r1,r2];exact HP
     | ok p k5=>
      obtain⟨v,rfl,⟨A10,n10,c10,A11,n11,c11,A12,n12,c12,A13,n13,c13,A14,n14,c14,A15,n15,c15,A16,n16,c16,rfl,hp,hl,hr⟩,m5⟩:=h5;simp only[PR.bind] at hT;have hk:=HAX.out _ _ rfl;have hkn:k5<=n:=by have:=HL.out;omega
      have R3:=hid (R2.out.mv m5 hkn);have hCL:=hid (RowR.clear R2.out.out (show B+1<=_ from R2.out.cur.lt.1) w5);have SP:=hid (pt_one (t:=111) hp hl hr);clear m5 hp hl hr;dsimp only;refine hK1.out _ _ (.inr R3.out.lv) ?_
      try simp only[Act.put,getElem_toArray,getElem_cons_zero,getElem_cons_succ,setIfInBounds_toArray,set_cons_zero,set_cons_succ]
      have R4:=hid (R3.out.ext' ((Ext.refl _).alloc (.cells #[.int .i64 p.kind,.string p.name,.slice A10 n10 c10,.int .i64 p.dir,.bool p.left.st,.bool p.left.en,.slice A11 n11 c11,.slice A12 n12 c12,.slice A13 n13 c13,.int .i64 p.left.cursor,.bool p.right.st,.bool p.right.en,.slice A14 n14 c14,.slice A15 n15 c15,.slice A16 n16 c16,.int .i64 p.right.cursor] 111)));refine wpE_one (i:=3) rfl (by kernel_rfl) (fun K2 hK2=>?_);go_simp;refine hK2.out _ _ (.inr R4.out.lv) ?_
      try simp only[Act.put,getElem_toArray,getElem_cons_zero,getElem_cons_succ,setIfInBounds_toArray,set_cons_zero,set_cons_succ]
      obtain⟨q2,hq2⟩:∃ q2,(l++[p]).length=q2:=⟨_,rfl⟩
      have HQ2:=hid hq2;have hq2n:q2<=200:=by rw[<- hq2,List.length_append,HQ.out];simp;omega
      clear hq2;refine wpE_one (i:=4) rfl (by kernel_rfl) (fun K3 hK3=>?_);refine step_row fam_pt T_part (by omega) rfl (.tmp 37) (.tmp 40) rfl rfl R4.out.out rfl SP.out (hCL.out.more (by simp)) (by rw[HQ.out];omega) R4.out.cur.lt.1 ?_;intro v6 w6 o6 g6;obtain⟨A6,c6,rfl⟩:=o6.form;rw[HQ2.out] at o6 ⊢;obtain⟨l6,z6,t6,r6⟩:=R4.out.app g6 o6;have R6:=hid r6;clear r6 o6 g6;refine hK3.out _ _ (.inr l6) ?_
      try simp only[Act.put,getElem_toArray,getElem_cons_zero,getElem_cons_succ,setIfInBounds_toArray,set_cons_zero,set_cons_succ]
      refine wpE_one (i:=5) rfl (by kernel_rfl) (fun K4 hK4=>?_);go_simp;refine hK4.out _ _ (.inl rfl) ?_;refine wpE_done (by kernel_rfl) ?_ _
      try simp only[Act.put,getElem_toArray,getElem_cons_zero,getElem_cons_succ,setIfInBounds_toArray,set_cons_zero,set_cons_succ]
      clear l6 z6 t6
      (try clear k1 kz kl q0 qz ql)
      have k1:=R6.out.cur.c1;have kz:=R6.out.cur.fz;have kl:=R6.out.cur.lt;have q0:=R6.out.lv;have qz:=R6.out.lz;have ql:=R6.out.lt;have hs2:spaceF L k5<=n:=by have:=spaceF_le (L:=L) (k:=k5) (by have:=HL.out;omega);have:=HL.out;omega
      have HG2:Hid (k5<=spaceF L k5):=hid spaceF_ge;have CS2:=hid (fun W (hW:CurAt W B A n c L k5)=>space_any B A n c L k5 W hW);generalize spaceF L k5=j2 at *;have CN:=hid (fun W (hW:CurAt W B A n c L j2)=>Need_any B A n c L j2 59 W hW (by omega));unfold needF at hT CN;by_cases h59:lookF L j2=59
      ·rw[if_pos h59] at hT CN;simp only[PR.bind] at hT;have hj2:j2<n:=by have:=look_lt' h59 (by omega);have:=HL.out;omega
       clear h59;have hs3:spaceF L (j2+1)<=n:=by have:=spaceF_le (L:=L) (k:=j2+1) (by have:=HL.out;omega);have:=HL.out;omega
       have HG3:Hid (j2+1<=spaceF L (j2+1)):=hid spaceF_ge;have CS3:=hid (fun W (hW:CurAt W B A n c L (j2+1))=>space_any B A n c L (j2+1) W hW);generalize spaceF L (j2+1)=j3 at *;have HN:=hid hT;clear hT
       go_wp2_with (first
        | (go_at_call 45;((with_reducible refine (CS2.out _ R6.out.cur).mono ?_);rintro e w7 ⟨rfl,m7⟩;have R7:=hid (R6.out.mv m7 hs2);(try clear k1 kz kl q0 qz ql);have k1:=R7.out.cur.c1;have kz:=R7.out.cur.fz;have kl:=R7.out.cur.lt;have q0:=R7.out.lv;have qz:=R7.out.lz;have ql:=R7.out.lt;clear m7))
        | (go_at_call 48;((with_reducible refine (CN.out _ R7.out.cur).mono ?_);rintro e w8 ⟨v8,rfl,rfl,m8⟩;have R8:=hid (R7.out.mv m8 (by omega));(try clear k1 kz kl q0 qz ql);have k1:=R8.out.cur.c1;have kz:=R8.out.cur.fz;have kl:=R8.out.cur.lt;have q0:=R8.out.lv;have qz:=R8.out.lz;have ql:=R8.out.lt;clear m8))
        | (go_at_call 45;((with_reducible refine (CS3.out _ R8.out.cur).mono ?_);rintro e w9 ⟨rfl,m9⟩;have R9:=hid (R8.out.mv m9 hs3);(try clear k1 kz kl q0 qz ql);have k1:=R9.out.cur.c1;have kz:=R9.out.cur.fz;have kl:=R9.out.cur.lt;have q0:=R9.out.lv;have qz:=R9.out.lz;have ql:=R9.out.lt;clear m9)))
       have HA2:=hid R9.out.cur.at_;go_roundw;case rel=>exact⟨f,j3,q2,_,_,l++[p],HQ2,hid (by have:=HF.out;have:=HG2.out;have:=HG3.out;omega),hs3,hq2n,HN,R9⟩
       case measure=>have e1:=HA.out;have e2:=HA2.out;have:=HG2.out;have:=HG3.out;rw[e1,e2];omega
      ·rw[if_neg h59] at hT CN;simp only[PR.bind] at hT;subst hT;clear h59
       go_wp2_with (first
        | (go_at_call 45;((with_reducible refine (CS2.out _ R6.out.cur).mono ?_);rintro e w7 ⟨rfl,m7⟩;have R7:=hid (R6.out.mv m7 hs2);(try clear k1 kz kl q0 qz ql);have k1:=R7.out.cur.c1;have kz:=R7.out.cur.fz;have kl:=R7.out.cur.lt;have q0:=R7.out.lv;have qz:=R7.out.lz;have ql:=R7.out.lt;clear m7))
        | (go_at_call 48;((with_reducible refine (CN.out _ R7.out.cur).mono ?_);rintro e wz ⟨rfl,qz,mz⟩;have MZ:=hid mz;clear mz)))
       have Z:=R7.out.b.mv MZ.out;refine leaves_cons (f:=43) (args:=#[.pointer (some ⟨fb,0,none⟩)]) (by simp) (by simp[go_sem]) ?_;refine (caught_panicking fb 2 (j2:Int) 0 0 [] _ Z.f0 Z.f1 Z.fz ⟨Z.lt.2,Nat.ne_of_lt Z.lt.2⟩).mono ?_;rintro e u' wq ⟨rfl,rfl,hq⟩;obtain⟨g0,g1,gz,g2⟩:=Z.fault 2 (j2:Int) hq;dsimp only;rw[show settle (FrameMode.panicking [{ v:=.iface 142 (.agg #[.int .i64 2,.int .i64 (j2:Int)]),recovered:=true }])=FrameMode.returning from rfl];refine leaves_cons (f:=42) (args:=#[.pointer (some ⟨fb,0,none⟩),.pointer (some ⟨lb,0,none⟩)]) (by simp) (by simp[go_sem]) ?_;refine (read1_bad fb lb 2 _ _ _ g0 (by omega) g1 gz).mono ?_;rintro e u' wq2 ⟨rfl,rfl,hq2⟩;obtain⟨r0,r1,r2,rx⟩:=g2 _ hq2;have HP:=RdPost.bad (w:=w) (er:=2) (q:=(j2:Int)) rfl rx;simp[Leaves,settle,results,Tryz.results22,go_sem,r0,r1,r2];exact HP
end Go.Proofs.YthomjcjnalfipaaGreatDoor
