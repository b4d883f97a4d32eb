/- A part of the proofs of the Top laws. -/
import Derived.Maps.Own
import Derived.Maps.OwnOps
import Derived.RegionTactic
import Derived.Deep.Cut
import Derived.Deep.CutRange
import Derived.Test.YthomjcjnalfipaaGreatDoorRows
import Derived.ProofKit
import Derived.OpenShut
import Derived.ChangeOld
import Derived.Deep.Fields
import Derived.Test.YthomjcjnalfipaaGreatDoorYB23
set_option linter.all false
set_option maxRecDepth 100000
set_option maxHeartbeats 3200000
open Go.Lib (hid)
namespace Go.Proofs.YthomjcjnalfipaaGreatDoor
open Go.RowKit
def partsW0:Nat->List Part->Int×Nat
 | _,[]=>(0,0)
 | i,p::l=>if partW p≠0 then (partW p,i) else partsW0 (i+1) l
def partsW (l:List Part):Int×Nat:=if 200<l.length then (5,0) else partsW0 0 l
theorem partsW0_ok {i:Nat} {p:Part} {l:List Part} (h:partW p=0):partsW0 i (p::l)=partsW0 (i+1) l:=by
 show (if partW p≠0 then (partW p,i) else partsW0 (i+1) l)=_;rw[if_neg (by simp[h])]
theorem partsW0_bad {i:Nat} {p:Part} {l:List Part} (h:partW p≠0):partsW0 i (p::l)=(partW p,i):=by
 show (if partW p≠0 then (partW p,i) else partsW0 (i+1) l)=_;rw[if_pos h]
structure PtX (ok:Nat->Prop) (w:World) (A10:Option Addr) (n10 c10:Nat) (A11:Option Addr) (n11 c11:Nat) (A12:Option Addr) (n12 c12:Nat) (A13:Option Addr) (n13 c13:Nat) (A14:Option Addr) (n14 c14:Nat) (A15:Option Addr) (n15 c15:Nat) (A16:Option Addr) (n16 c16:Nat) (p:Part):Prop where
 pa:PtA ok w A10 n10 c10 p
 sl:SdA ok w A11 n11 c11 A12 n12 c12 A13 n13 c13 p.left
 sr:SdA ok w A14 n14 c14 A15 n15 c15 A16 n16 c16 p.right
theorem PtX.ext {ok:Nat->Prop} {w w':World} {A10 A11 A12 A13 A14 A15 A16:Option Addr} {n10 c10 n11 c11 n12 c12 n13 c13 n14 c14 n15 c15 n16 c16:Nat} {p:Part} (h:PtX ok w A10 n10 c10 A11 n11 c11 A12 n12 c12 A13 n13 c13 A14 n14 c14 A15 n15 c15 A16 n16 c16 p) (e:Ext w w'):PtX ok w' A10 n10 c10 A11 n11 c11 A12 n12 c12 A13 n13 c13 A14 n14 c14 A15 n15 c15 A16 n16 c16 p:=
 ⟨⟨h.pa.kb,h.pa.db,h.pa.nm,h.pa.set.ext (keep_span _) e⟩,h.sl.ext e,h.sr.ext e⟩
theorem SlR.pt {ok ok2:Nat->Prop} {w:World} {A:Option Addr} {n c k:Nat} {l:List Part} {p:Part} (h:SlR (rPt ok) 16 ok2 w A n c l) (hx:l[k]? =some p) :
  ∃ b off A10 n10 c10 A11 n11 c11 A12 n12 c12 A13 n13 c13 A14 n14 c14 A15 n15 c15 A16 n16 c16,A=some ⟨b,off,none⟩/\(b<w.heap.size/\b≠w.heap.size) /\
   PtX ok w A10 n10 c10 A11 n11 c11 A12 n12 c12 A13 n13 c13 A14 n14 c14 A15 n15 c15 A16 n16 c16 p /\
   w.cell? ⟨b,off+k*16,none⟩=some (.int .i64 p.kind)/\w.cell? ⟨b,off+k*16+1,none⟩=some (.string p.name)/\w.cell? ⟨b,off+k*16+2,none⟩=some (.slice A10 n10 c10)/\w.cell? ⟨b,off+k*16+3,none⟩=some (.int .i64 p.dir) /\
   w.cell? ⟨b,off+k*16+4,none⟩=some (.bool p.left.st)/\w.cell? ⟨b,off+k*16+5,none⟩=some (.bool p.left.en)/\w.cell? ⟨b,off+k*16+6,none⟩=some (.slice A11 n11 c11)/\w.cell? ⟨b,off+k*16+7,none⟩=some (.slice A12 n12 c12) /\
   w.cell? ⟨b,off+k*16+8,none⟩=some (.slice A13 n13 c13)/\w.cell? ⟨b,off+k*16+9,none⟩=some (.int .i64 p.left.cursor)/\w.cell? ⟨b,off+k*16+10,none⟩=some (.bool p.right.st)/\w.cell? ⟨b,off+k*16+11,none⟩=some (.bool p.right.en) /\
   w.cell? ⟨b,off+k*16+12,none⟩=some (.slice A14 n14 c14)/\w.cell? ⟨b,off+k*16+13,none⟩=some (.slice A15 n15 c15)/\w.cell? ⟨b,off+k*16+14,none⟩=some (.slice A16 n16 c16)/\w.cell? ⟨b,off+k*16+15,none⟩=some (.int .i64 p.right.cursor):=by
 obtain⟨b,off,vs,e,ho,_,⟨A10,n10,c10,vl,vr,rfl,hp,⟨A11,n11,c11,A12,n12,c12,A13,n13,c13,rfl,hl⟩,⟨A14,n14,c14,A15,n15,c15,A16,n16,c16,rfl,hr⟩⟩,hc⟩:=h.at_ k p hx;have h0:=hc 0 _ rfl;have hlt:b<w.heap.size:=World.block_lt_of_cell? w _ h0
 exact⟨b,off,A10,n10,c10,A11,n11,c11,A12,n12,c12,A13,n13,c13,A14,n14,c14,A15,n15,c15,A16,n16,c16,e,⟨hlt,by omega⟩,⟨hp,hl,hr⟩,
  by simpa using h0,by simpa using hc 1 _ rfl,by simpa using hc 2 _ rfl,by simpa using hc 3 _ rfl,by simpa using hc 4 _ rfl,by simpa using hc 5 _ rfl,by simpa using hc 6 _ rfl,by simpa using hc 7 _ rfl,
  by simpa using hc 8 _ rfl,by simpa using hc 9 _ rfl,by simpa using hc 10 _ rfl,by simpa using hc 11 _ rfl,by simpa using hc 12 _ rfl,by simpa using hc 13 _ rfl,by simpa using hc 14 _ rfl,by simpa using hc 15 _ rfl⟩
theorem partW_x {ok:Nat->Prop} {w:World} {A10 A11 A12 A13 A14 A15 A16:Option Addr} {n10 c10 n11 c11 n12 c12 n13 c13 n14 c14 n15 c15 n16 c16:Nat} {p:Part} (h:PtX ok w A10 n10 c10 A11 n11 c11 A12 n12 c12 A13 n13 c13 A14 n14 c14 A15 n15 c15 A16 n16 c16 p) :
  Calls Tryz.prog 82 #[.agg #[.int .i64 p.kind,.string p.name,.slice A10 n10 c10,.int .i64 p.dir,.bool p.left.st,.bool p.left.en,.slice A11 n11 c11,.slice A12 n12 c12,.slice A13 n13 c13,.int .i64 p.left.cursor,.bool p.right.st,.bool p.right.en,.slice A14 n14 c14,.slice A15 n15 c15,.slice A16 n16 c16,.int .i64 p.right.cursor]] w
   fun e w'=>e=.returned (.int .i64 (partW p))/\Ext w w':=partW_any h.pa h.sl h.sr
theorem WrongP_any {ok:Nat->Prop} (A:Option Addr) (n c:Nat) (l:List Part) (w:World) (h:Pts ok w A n c l) :
  Calls Tryz.prog 83 #[.slice A n c] w fun e w'=>e=.returned (.agg #[.int .i64 (partsW l).1,.int .i64 (partsW l).2])/\Ext w w':=by
 have hlen:=hid h.len;have hm:=h.max;unfold maxLen at hm;have hcap:=h.cap;have x0:Ext w (w.alloc (.cells #[.int .i64 0,.int .i64 0] 34)):=(Ext.refl w).alloc _;obtain⟨V,hV⟩:∃ V,partsW l=V:=⟨_,rfl⟩
 rw[hV];unfold partsW at hV;rw[hlen.out] at hV;by_cases hbig:200<n
 ·rw[if_pos hbig] at hV;subst hV;clear h;go_enter Tryz.func83,Tryz.ntmps83;go_wp2;refine bodyPost_ret (v:=.agg #[.int .i64 5,.int .i64 0]) (by simp[results,Tryz.results83,go_sem]) rfl ?_;exact⟨rfl,(Ext.refl w).alloc _⟩
 ·rw[if_neg hbig] at hV;have HV:=hid hV;have X0:=hid x0;have b0:(w.alloc (.cells #[.int .i64 0,.int .i64 0] 34)).cell? ⟨w.heap.size,0,none⟩=some (.int .i64 0):=cell_new _ _ _ 0 _ rfl;have b1:(w.alloc (.cells #[.int .i64 0,.int .i64 0] 34)).cell? ⟨w.heap.size,1,none⟩=some (.int .i64 0):=cell_new _ _ _ 1 _ rfl;have bz:∀ i,(w.alloc (.cells #[.int .i64 0,.int .i64 0] 34)).frozen? ⟨w.heap.size,i,none⟩=false:=fun i=>by simp
  have bl:w.heap.size<(w.alloc (.cells #[.int .i64 0,.int .i64 0] 34)).heap.size:=by simp
  have HP:=hid (h.ext (fam_pt.keep ok) x0);have B0:=hid b0;have B1:=hid b1;have BZ:=hid bz;have BL:=hid bl;clear h hV b0 b1 bz bl;go_enter Tryz.func83,Tryz.ntmps83;go_wp2;generalize w.alloc (.cells #[.int .i64 0,.int .i64 0] 34)=w1 at *;generalize hT:w.heap.size=Tb at *;have HT:=hid hT;clear hT x0;go_loopw [12] (fun i wr=>∃ k:Nat,k<=n/\i=.int .i64 k/\Hid (partsW0 k (l.drop k)=V)/\Hid (Ext w1 wr)) (fun i _=>n-(intOf i).toNat);case atStart=>exact⟨0,by omega,rfl,HV,hid (Ext.refl _)⟩
  case round=>
   clear HV;obtain⟨k,hk,rfl,HV,HX⟩:=hrel;by_cases hlt:k<n
   ·obtain⟨p,hp⟩:=HP.out.idx hlt;obtain⟨b,off,A10,n10,c10,A11,n11,c11,A12,n12,c12,A13,n13,c13,A14,n14,c14,A15,n15,c15,A16,n16,c16,rfl,⟨_,hne⟩,hx,d0,d1,d2,d3,d4,d5,d6,d7,d8,d9,d10,d11,d12,d13,d14,d15⟩:=(HP.out.ext (fam_pt.keep ok) HX.out).pt hp;have HD:=hid (drop_cons hp);have hz1:=(Ext.refl wr).alloc (.cells #[.int .i64 p.kind,.string p.name,.slice A10 n10 c10,.int .i64 p.dir,.bool p.left.st,.bool p.left.en,.slice A11 n11 c11,.slice A12 n12 c12,.slice A13 n13 c13,.int .i64 p.left.cursor,.bool p.right.st,.bool p.right.en,.slice A14 n14 c14,.slice A15 n15 c15,.slice A16 n16 c16,.int .i64 p.right.cursor] 111);have CP:=hid (partW_x (hx.ext hz1));have Z1:=hid (HX.out.trans hz1);clear hp hx hz1;by_cases hz:partW p=0
    ·have HV2:Hid (partsW0 (k+1) (l.drop (k+1))=V):=hid (by rw[<- HV.out,HD.out,partsW0_ok hz]);have HZ:=hid hz;clear hz HV;go_wp2_with (go_at_call 82;refine CP.out.mono ?_;rintro e w2 ⟨rfl,x2⟩;rw[HZ.out];have Z2:=hid (Z1.out.trans x2);clear x2);go_roundw;case rel=>exact⟨k+1,by omega,by go_num,HV2,Z2⟩
     case measure=>simp[intOf];omega
    ·have hVe:V=(partW p,k):=by rw[<- HV.out,HD.out,partsW0_bad hz]
     have g:(partW p != 0)=true:=by simpa using hz
     clear hz HV;generalize partW p=er at *;subst hVe;go_wp2_with (go_at_call 82;refine CP.out.mono ?_;rintro e w2 ⟨rfl,x2⟩;have Z2:=hid (Z1.out.trans x2);have q0:=Z2.out.cell B0.out;have q1:=Z2.out.cell B1.out;have qz:∀ i,w2.frozen? ⟨Tb,i,none⟩=false:=(fun i=>(Z2.out.frozen (a:=⟨Tb,i,none⟩) BL.out).trans (BZ.out i));clear x2);have r0:(w2.setCell ⟨Tb,0,none⟩ (.int .i64 er)).cell? ⟨Tb,0,none⟩=some (.int .i64 er):=set_same q0;have r1:((w2.setCell ⟨Tb,0,none⟩ (.int .i64 er)).setCell ⟨Tb,1,none⟩ (.int .i64 k)).cell? ⟨Tb,1,none⟩=some (.int .i64 k):=set_same (set_other q1 (by omega));refine bodyPost_ret (v:=.agg #[.int .i64 er,.int .i64 k]) (by simp[results,Tryz.results83,go_sem,r0,r1]) rfl ?_;exact⟨rfl,((X0.out.trans Z2.out).setCell (p:=⟨Tb,0,none⟩) (by show w.heap.size<=Tb;rw[HT.out];exact Nat.le_refl _) _).setCell (p:=⟨Tb,1,none⟩) (by show w.heap.size<=Tb;rw[HT.out];exact Nat.le_refl _) _⟩
   ·have hVe:V=(0,0):=by rw[<- HV.out,drop_end hlen.out hlt];rfl
    subst hVe;have q0:=HX.out.cell B0.out;have q1:=HX.out.cell B1.out;have qz:∀ i,wr.frozen? ⟨Tb,i,none⟩=false:=(fun i=>(HX.out.frozen (a:=⟨Tb,i,none⟩) BL.out).trans (BZ.out i))
    have e0:=setCell_self q0;have e1:=setCell_self q1;go_wp2;refine bodyPost_ret (v:=.agg #[.int .i64 0,.int .i64 0]) (by simp[results,Tryz.results83,go_sem,q0,q1,e0,e1]) rfl ?_;exact⟨rfl,by first | exact X0.out.trans HX.out | (rw[e0,e1];exact X0.out.trans HX.out)⟩
end Go.Proofs.YthomjcjnalfipaaGreatDoor
namespace Go.Proofs.YthomjcjnalfipaaGreatDoor
open Go.RowKit Go.Maps Go.WideMaps Go.ChangeMaps
abbrev Vars:=List (ByteArray×List Sp)
def lookV (v:Vars) (s:ByteArray):Option (List Sp):=(v.find? fun p=>decide (p.1=s)).map (·.2)
def itemV (v:Vars) (x:It):Option (List Sp):=if x.kind=1 then some [⟨x.rune,x.rune⟩] else if x.kind=2 then some x.set else lookV v x.name
def setsV (v:Vars):List It->Option (List (List Sp))
 | []=>some []
 | x::l=>match itemV v x with
  | none=>none
  | some s=>(setsV v l).map (s:: ·)
def ruleV (v:Vars) (fr tx:Side):Option Rule:=match setsV v fr.before with
 | none=>none
 | some a=>match setsV v fr.source with
  | none=>none
  | some b=>match setsV v fr.after with
   | none=>none
   | some c=>some ⟨fr.st,fr.en,a,b,c,tx.source.map (·.rune),if tx.cursor<0 then (tx.source.length:Int) else tx.cursor⟩
structure Pas where
 name:ByteArray
 rules:List Rule
structure Script where
 filt:Bool
 only:List Sp
 passes:List Pas
def upperS:ByteArray:=⟨#[117,112,112,101,114]⟩
def lowerS:ByteArray:=⟨#[108,111,119,101,114]⟩
def nullS:ByteArray:=⟨#[110,117,108,108]⟩
def removeS:ByteArray:=⟨#[114,101,109,111,118,101]⟩
def invS (s:ByteArray):ByteArray:=if s=upperS then lowerS else if s=lowerS then upperS else nullS
structure RS where
 vars:Vars
 a:List Rule
 b:List Rule
 ps:List Pas
 bs:List Pas
 filt:Bool
 only:List Sp
def RS.init:RS:=⟨[],[],[],[],[],false,[]⟩
def moreP (l:List Rule) (ps:List Pas):List Pas:=if l.length=0 then ps else ps++[⟨.empty,l⟩]
def closeS (r:RS):RS:={ r with a:=[],b:=[],ps:=moreP r.a r.ps,bs:=moreP r.b r.bs }
def stepR (r:RS) (p:Part):Sum Int RS:=
 if p.kind=1 then (if (lookV r.vars p.name).isSome then .inl 7 else .inr { r with vars:=r.vars++[(p.name,p.set)] })
 else if p.kind=3 then (if r.filt then .inl 5 else .inr { r with filt:=true,only:=p.set })
 else if p.kind=4 then .inr { closeS r with ps:=(closeS r).ps++[⟨p.name,[]⟩],bs:=(closeS r).bs++[⟨invS p.name,[]⟩] }
 else if p.kind=2 then
  match ruleV r.vars p.left p.right with
  | none=>.inl 7
  | some x=>match ruleV r.vars p.right p.left with
   | none=>.inl 7
   | some y=>.inr { r with a:=if p.dir=2 then r.a else r.a++[x],b:=if p.dir=1 then r.b else r.b++[y] }
 else .inr r
def goR:Nat->RS->List Part->Sum (Int×Nat) RS
 | _,r,[]=>.inr r
 | i,r,p::l=>match stepR r p with
  | .inl e=>.inl (e,i)
  | .inr r'=>goR (i+1) r' l
structure Both where
 forth:Script
 back:Script
 err:Int
 at_:Nat
def noBoth (e:Int) (i:Nat):Both:=⟨⟨false,[],[]⟩,⟨false,[],[]⟩,e,i⟩
def readyF (l:List Part):Both:=
 if (partsW l).1≠0 then noBoth (partsW l).1 (partsW l).2
 else match goR 0 RS.init l with
  | .inl e=>noBoth e.1 e.2
  | .inr r=>⟨⟨r.filt,r.only,(closeS r).ps⟩,⟨r.filt,r.only,(closeS r).bs.reverse⟩,0,0⟩
structure VarsAt (ok:Nat->Prop) (W:World) (b:Nat) (vs:Vars):Prop where
 nd:(vs.map (·.1)).Nodup
 sz:∀ p∈vs,p.1.size<=maxLen
 map:∃ kv:List (Value×Value),MapAt W b kv/\kv.length=vs.length/\∀ (i:Nat) (s:ByteArray) (t:List Sp),vs[i]? =some (s,t)->∃ A n c,kv[i]? =some (Value.string s,Value.slice A n c)/\SlR rSpan 2 ok W A n c t
theorem VarsAt.ext {ok:Nat->Prop} {W W':World} {b:Nat} {vs:Vars} (h:VarsAt ok W b vs) (e:Ext W W'):VarsAt ok W' b vs:=by
 obtain⟨kv,h1,h2,h3⟩:=h.map
 exact⟨h.nd,h.sz,kv,h1.ext e,h2,fun i s t hi=>by
  obtain⟨A,n,c,e1,hs⟩:=h3 i s t hi
  exact⟨A,n,c,e1,hs.ext (keep_span _) e⟩⟩
theorem VarsAt.lt {ok:Nat->Prop} {W:World} {b:Nat} {vs:Vars} (h:VarsAt ok W b vs):b<W.heap.size:=by
 obtain⟨kv,h1,_⟩:=h.map;exact h1.lt
theorem VarsAt.keep {ok:Nat->Prop} {W W':World} {b:Nat} {vs:Vars} (h:VarsAt ok W b vs) (hb:W'.heap[b]? =W.heap[b]?) (ha:Agree ok W W'):VarsAt ok W' b vs:=by
 obtain⟨kv,⟨es,cl,e1,e2⟩,h2,h3⟩:=h.map
 exact⟨h.nd,h.sz,kv,⟨es,cl,hb.trans e1,e2⟩,h2,fun i s t hi=>by
  obtain⟨A,n,c,e1,hs⟩:=h3 i s t hi
  exact⟨A,n,c,e1,hs.keep (keep_span _) ha⟩⟩
theorem VarsAt.made (ok:Nat->Prop) (w:World):VarsAt ok (w.alloc (.map #[] 0)) w.heap.size []:=⟨List.nodup_nil,fun p hp=>(by cases hp),[],MapAt.made w,rfl,fun i s t h=>by simp at h⟩
theorem VarsAt.keys {ok:Nat->Prop} {W:World} {vs:Vars} {kv:List (Value×Value)} (hsz:∀ p∈vs,p.1.size<=maxLen) (h2:kv.length=vs.length) (h3:∀ (i:Nat) (s:ByteArray) (t:List Sp),vs[i]? =some (s,t)->∃ A n c,kv[i]? =some (Value.string s,Value.slice A n c)/\SlR rSpan 2 ok W A n c t) :
  ∀ p∈kv,∃ l,keyOf Tryz.prog 9 p.1=some l:=fun p hp=>by
 obtain⟨i,hi⟩:=List.getElem?_of_mem hp;have hlt:=lt_of_get hi;obtain⟨⟨s,t⟩,hv⟩:∃ x,vs[i]? =some x:=⟨_,List.getElem?_eq_getElem (by omega)⟩
 obtain⟨A,n,c,e,_⟩:=h3 i s t hv;rw[hi] at e;cases e;exact⟨_,keyS (hsz (s,t) (List.mem_of_getElem? hv))⟩
theorem lookV_none {v:Vars} {s:ByteArray} (h:∀ p∈v,p.1≠s):lookV v s=none:=by
 unfold lookV;rw[Option.map_eq_none_iff,List.find?_eq_none];intro p hp e;exact h p hp (by simpa using e)
theorem lookV_some {s:ByteArray} {t:List Sp}:∀ {v:Vars},(v.map (·.1)).Nodup->(s,t)∈v->lookV v s=some t
 | [],_,h=>by cases h
 | p::v,hn,h=>by
  rw[List.map_cons,List.nodup_cons] at hn;unfold lookV;rcases List.mem_cons.1 h with e | h
  ·subst e;simp
  ·have hne:p.1≠s:=fun e=>hn.1 (List.mem_map.2 ⟨(s,t),h,e.symm⟩);rw[List.find?_cons_of_neg (by simpa using hne)];exact lookV_some hn.2 h
theorem VarsAt.look {ok:Nat->Prop} {W:World} {b:Nat} {vs:Vars} (h:VarsAt ok W b vs) (s:ByteArray) (hs:s.size<=maxLen) :
  ∃ A n c,(Instr.lookup 152 (.map (some b)) (.string s) true).run Tryz.prog W=.ok (.tuple #[.slice A n c,.bool (lookV vs s).isSome]) W/\SlR rSpan 2 ok W A n c ((lookV vs s).getD []):=by
 obtain⟨kv,h1,h2,h3⟩:=h.map;rcases h1.look lawS Tryz.underlying152 (z:=.slice none 0 0) (fun w=>by kernel_rfl) (VarsAt.keys h.sz h2 h3) (keyS hs) with ⟨e1,e2⟩ | ⟨p,hp,e1,e2⟩
 ·have hc:lookV vs s=none:=lookV_none fun p hp e=>by
   obtain⟨i,hi⟩:=List.getElem?_of_mem hp;obtain⟨A,n,c,e3,_⟩:=h3 i p.1 p.2 hi;exact e1 _ (List.mem_of_getElem? e3) (by rw[e])
  rw[hc];exact⟨none,0,0,e2,SlR.nil _ _ _ _ _ _ (by unfold maxLen;omega)⟩
 ·obtain⟨i,hi⟩:=List.getElem?_of_mem hp;have hlt:=lt_of_get hi;obtain⟨⟨s',t⟩,hv⟩:∃ x,vs[i]? =some x:=⟨_,List.getElem?_eq_getElem (by omega)⟩
  obtain⟨A,n,c,e3,hsl⟩:=h3 i s' t hv;rw[hi] at e3;cases e3;have hn:s'=s:=by simpa using e1
  subst hn;rw[lookV_some h.nd (List.mem_of_getElem? hv)];exact⟨A,n,c,e2,hsl⟩
theorem inverse_any (s:ByteArray) (w:World):Calls Tryz.prog 86 #[.string s] w fun e w'=>e=.returned (.string (invS s))/\w'=w:=by
 obtain⟨V,hV⟩:∃ V,invS s=V:=⟨_,rfl⟩
 rw[hV];unfold invS at hV;by_cases h1:s=upperS
 ·rw[if_pos h1] at hV;subst h1 hV;go_enter Tryz.func86,Tryz.ntmps86;unfold upperS;go_wp2;go_ret;exact⟨rfl,rfl⟩
 ·rw[if_neg h1] at hV;have g0:=str_ne h1;have g1:(s.toList==[117,112,112,101,114])=false:=by rw[show [117,112,112,101,114]=upperS.toList by rw[Lib.toList_data];rfl];exact g0
  clear g0;by_cases h2:s=lowerS
  ·rw[if_pos h2] at hV;subst h2 hV;unfold lowerS upperS at *;go_enter Tryz.func86,Tryz.ntmps86;go_wp2;go_ret;exact⟨rfl,rfl⟩
  ·rw[if_neg h2] at hV;subst hV;have g0:=str_ne h2;have g2:(s.toList==[108,111,119,101,114])=false:=by rw[show [108,111,119,101,114]=lowerS.toList by rw[Lib.toList_data];rfl];exact g0
   clear g0;clear h1 h2;go_enter Tryz.func86,Tryz.ntmps86;go_wp2;go_ret;exact⟨rfl,rfl⟩
abbrev rSet (ok:Nat->Prop):World->List Value->List Sp->Prop:=rSl rSpan 2 ok
theorem fam_set:Fam rSet where
 mono:=fun hk ⟨A,n,c,e,h⟩=>⟨A,n,c,e,h.mono (fun _ _ h=>h) hk⟩
 keep:=fun ok=>keep_sl (keep_span ok)
 one:=fun ok=>one_sl _ _ _
theorem set_one {tk:Nat->Prop} {w:World} {A:Option Addr} {n c:Nat} {t:List Sp} (e:TypeId) (hs:SlR rSpan 2 tk w A n c t):SlR (rSet tk) 1 top (w.alloc (.cells #[.slice A n c] e)) (some ⟨w.heap.size,0,none⟩) 1 1 [t]:=
 SlR.fresh rfl (by unfold maxLen;omega) fun k u hu=>by
  match k,hu with
  | 0,hu=>cases hu;exact⟨[.slice A n c],rfl,⟨A,n,c,rfl,hs.ext (keep_span _) ((Ext.refl w).alloc _)⟩,fun j v hv=>by match j,hv with | 0,hv=>simpa using hv⟩
abbrev SetRow (base:Nat) (w:World) (v:Value) (l:List (List Sp)):Prop:=RowR rSet 23 1 base w v l
def SetsPost (w:World) (T:Option (List (List Sp))) (e:Ending) (w':World):Prop:=(match T with
 | some r=>∃ v,e=.returned (.tuple #[v,.bool true])/\SetRow w.heap.size w' v r
 | none=>e=.returned (.tuple #[.slice none 0 0,.bool false]))/\Ext w w'
theorem lookV_mem {v:Vars} {s:ByteArray} {t:List Sp} (h:lookV v s=some t):∃ p∈v,p.2=t:=by
 unfold lookV at h;obtain⟨p,hp,e⟩:=Option.map_eq_some_iff.1 h;exact⟨p,List.mem_of_find?_eq_some hp,e⟩
theorem spans_lt5 {base:Nat} {w:World} {A:Option Addr} {n c:Nat} {s:List Sp} (h:SlR rSpan 2 (fun b=>base<=b) w A n c s):SlR rSpan 2 (fun b=>base<=b/\b<w.heap.size) w A n c s:=h.lt (by omega)
theorem Clear.more5 {tk:Nat->Prop} {base:Nat} {w w':World} {v:Value} (h:Clear tk base w v) (hs:w.heap.size<=w'.heap.size):Clear tk base w' v:=fun i hi=>⟨(h i hi).1,Nat.lt_of_lt_of_le (h i hi).2.1 hs,(h i hi).2.2⟩
theorem setsV_any {ok okv:Nat->Prop} {w:World} {b:Nat} {vs:Vars} (hv:VarsAt okv w b vs) (hvs:∀ p∈vs,p.2.length<=200) {A:Option Addr} {n c:Nat} {l:List It} (h:Its ok w A n c l) (hn:n<=50000) (hset:∀ x∈l,x.kind=2->x.set.length<=200) :
  Calls Tryz.prog 122 #[.map (some b),.slice A n c] w fun e w'=>SetsPost w (setsV vs l) e w':=by
 have hlen:=hid h.len;have hm:=h.max;unfold maxLen at hm;have hcap:=h.cap;have H:=hid h;have HV:=hid hv;have HVS:=hid hvs;have HSET:=hid hset;obtain⟨T,hT⟩:∃ T,setsV vs l=T:=⟨_,rfl⟩
 rw[hT];have HT0:Hid ((setsV vs (l.drop 0)).map (([]:List (List Sp))++ ·)=T):=hid (by rw[<- hT];simp);have O0:Hid (SetRow w.heap.size w (.slice none 0 0) []):=hid (RowR.nil _ _ _ _ _);clear h hv hvs hset hT;go_enter Tryz.func122,Tryz.ntmps122;go_wp2;go_loopw [6,13] (fun v6 v13 wr=>∃ (k:Nat) (out:List (List Sp)),v13=.int .i64 k/\k<=n/\Hid ((setsV vs (l.drop k)).map (out++ ·)=T)/\Hid (out.length=k)/\Hid (Ext w wr)/\Hid (SetRow w.heap.size wr v6 out)) (fun _ v13 _=>n-(intOf v13).toNat);case atStart=>exact⟨0,[],rfl,by omega,HT0,hid rfl,hid (Ext.refl _),O0⟩
 case round=>
  clear HT0 O0;obtain⟨k,out,rfl,hk,HT,HO,X0,O0⟩:=hrel;by_cases hlt:k<n
  ·obtain⟨x,hx⟩:=H.out.idx hlt;obtain⟨b1,off,A4,n4,c4,rfl,⟨_,hne⟩,hi,d0,d1,d2,d3⟩:=(Its.ext H.out X0.out).it hx;have hD:=drop_cons hx;have hmem:=List.mem_of_getElem? hx;have hT:=HT.out;rw[hD] at hT;unfold setsV at hT;have hz1:=(Ext.refl wr).alloc (.cells #[.int .i64 x.kind,.int .i32 x.rune,.slice A4 n4 c4,.string x.name] 193);have X1:=hid (X0.out.trans hz1);have O1:=hid (O0.out.ext fam_set hz1);have I1:=hid (hi.keep (hz1.agree ok));clear hx hD HT hz1 hi;by_cases k1:x.kind=1
   ·have hiv:itemV vs x=some [⟨x.rune,x.rune⟩]:=by unfold itemV;rw[if_pos k1]
    rw[hiv] at hT;dsimp only at hT;have HT2:Hid ((setsV vs (l.drop (k+1))).map ((out++[[(⟨x.rune,x.rune⟩:Sp)]])++ ·)=T):=hid (by rw[<- hT,Option.map_map];congr 1;funext y;simp);have X2:=hid (X1.out.alloc (.cells #[.int .i32 x.rune,.int .i32 x.rune] 30));have O2:=hid (O1.out.ext fam_set ((Ext.refl _).alloc (.cells #[.int .i32 x.rune,.int .i32 x.rune] 30)));have S2:=hid (spans_lt5 (one_sp (base:=(wr.alloc (.cells #[.int .i64 x.kind,.int .i32 x.rune,.slice A4 n4 c4,.string x.name] 193)).heap.size) I1.out.rb I1.out.rb _ (Nat.le_refl _)));have CL2:=hid (RowR.clear O1.out X1.out.size ((wr.alloc (.cells #[.int .i64 x.kind,.int .i32 x.rune,.slice A4 n4 c4,.string x.name] 193)).alloc (.cells #[.int .i32 x.rune,.int .i32 x.rune] 30)));have X3:=hid (X2.out.alloc (.cells #[.slice (some ⟨(wr.alloc (.cells #[.int .i64 x.kind,.int .i32 x.rune,.slice A4 n4 c4,.string x.name] 193)).heap.size,0,none⟩) 1 1] 23));have O3:=hid (O2.out.ext fam_set ((Ext.refl _).alloc (.cells #[.slice (some ⟨(wr.alloc (.cells #[.int .i64 x.kind,.int .i32 x.rune,.slice A4 n4 c4,.string x.name] 193)).heap.size,0,none⟩) 1 1] 23)));have SO2:=hid (set_one 23 S2.out);simp only[World.size_alloc] at X3 O3 S2 CL2 SO2;have m1:(x.kind==1)=true:=by simpa using k1
    clear hT hiv k1
    go_wp2_with (first
     | (at_builtin;refine wpList_row fam_set T_set (by omega) rfl (.tmp 35) (.tmp 42) rfl rfl O3.out rfl (SO2.out) ((CL2.out.more5 (by simp))) (by have:=HO.out;omega) X3.out.size ?_;intro v9 w9 o9 g9;have X9:=hid (O3.out.grown X3.out g9);have O9:=hid o9;clear o9 g9))
    go_roundw;case rel=>exact⟨k+1,_,by go_num,by omega,HT2,hid (by rw[List.length_append,HO.out];rfl),X9,O9⟩
    case measure=>simp[intOf];omega
   ·have m1:(x.kind==1)=false:=by simpa using k1
    by_cases k2:x.kind=2
    ·have hiv:itemV vs x=some x.set:=by unfold itemV;rw[if_neg k1,if_pos k2]
     rw[hiv] at hT;dsimp only at hT;have HT2:Hid ((setsV vs (l.drop (k+1))).map ((out++[x.set])++ ·)=T):=hid (by rw[<- hT,Option.map_map];congr 1;funext y;simp);have hsl:=HSET.out x hmem k2;have HCl:=hid (Clone_span one_span (keep_span bot) A4 n4 c4 x.set _ I1.out.set (by rw[<- I1.out.set.len];omega) (fun _ _ h=>h));have m2:(x.kind==2)=true:=by simpa using k2
     clear hT hiv k1 k2
     go_wp2_with (first
      | (go_at_call 58;((refine (HCl.out).mono ?_);rintro e w5 ⟨v5,rfl,o5,x5⟩;obtain⟨A5,c5,rfl,s5⟩:=o5.sl;have S5:=hid (spans_lt5 s5);have X5:=hid (X1.out.trans x5);have O5:=hid (O1.out.ext fam_set x5);have CL5:=hid (RowR.clear O1.out X1.out.size w5);have X6:=hid (X5.out.alloc (.cells #[.slice A5 x.set.length c5] 23));have O6:=hid (O5.out.ext fam_set ((Ext.refl w5).alloc (.cells #[.slice A5 x.set.length c5] 23)));clear o5 x5 s5))
      | (at_builtin;refine wpList_row fam_set T_set (by omega) rfl (.tmp 46) (.tmp 50) rfl rfl O6.out rfl (set_one _ S5.out) ((CL5.out.more5 (by simp))) (by have:=HO.out;omega) X6.out.size ?_;intro v9 w9 o9 g9;have X9:=hid (O6.out.grown X6.out g9);have O9:=hid o9;clear o9 g9))
     go_roundw;case rel=>exact⟨k+1,_,by go_num,by omega,HT2,hid (by rw[List.length_append,HO.out];rfl),X9,O9⟩
     case measure=>simp[intOf];omega
    ·have m2:(x.kind==2)=false:=by simpa using k2
     have hiv:itemV vs x=lookV vs x.name:=by unfold itemV;rw[if_neg k1,if_neg k2]
     rw[hiv] at hT;obtain⟨A7,n7,c7,hlk,hs7⟩:=(HV.out.ext X1.out).look x.name I1.out.nm;have HCl0:=hid hs7;clear hiv k1 k2 hs7
     cases hf:lookV vs x.name with
     | none=>
      rw[hf] at hT hlk;dsimp only at hT;simp only[Option.map_none] at hT;subst hT;simp only[Option.isSome_none] at hlk;clear hf HCl0;go_wp2;go_ret2;exact⟨rfl,X1.out⟩
     | some t=>
      rw[hf] at hT hlk HCl0;dsimp only at hT;simp only[Option.isSome_some,Option.getD_some] at hlk HCl0;have HT2:Hid ((setsV vs (l.drop (k+1))).map ((out++[t])++ ·)=T):=hid (by rw[<- hT,Option.map_map];congr 1;funext y;simp)
      have htl:t.length<=200:=by
       obtain⟨p,hp,e⟩:=lookV_mem hf;rw[<- e];exact HVS.out p hp
      have HCl:=hid (Clone_span one_span (keep_span bot) A7 n7 c7 t _ HCl0.out (by rw[<- HCl0.out.len];omega) (fun _ _ h=>h));clear hT hf HCl0 htl
      go_wp2_with (first
       | (go_at_call 58;((refine (HCl.out).mono ?_);rintro e w5 ⟨v5,rfl,o5,x5⟩;obtain⟨A5,c5,rfl,s5⟩:=o5.sl;have S5:=hid (spans_lt5 s5);have X5:=hid (X1.out.trans x5);have O5:=hid (O1.out.ext fam_set x5);have CL5:=hid (RowR.clear O1.out X1.out.size w5);have X6:=hid (X5.out.alloc (.cells #[.slice A5 t.length c5] 23));have O6:=hid (O5.out.ext fam_set ((Ext.refl w5).alloc (.cells #[.slice A5 t.length c5] 23)));clear o5 x5 s5))
       | (at_builtin;refine wpList_row fam_set T_set (by omega) rfl (.tmp 28) (.tmp 31) rfl rfl O6.out rfl (set_one _ S5.out) ((CL5.out.more5 (by simp))) (by have:=HO.out;omega) X6.out.size ?_;intro v9 w9 o9 g9;have X9:=hid (O6.out.grown X6.out g9);have O9:=hid o9;clear o9 g9))
      go_roundw;case rel=>exact⟨k+1,_,by go_num,by omega,HT2,hid (by rw[List.length_append,HO.out];rfl),X9,O9⟩
      case measure=>simp[intOf];omega
  ·have hT:=HT.out;rw[drop_end hlen.out hlt] at hT;simp only[setsV,Option.map_some,List.append_nil] at hT;subst hT;clear HT;go_wp2;go_ret2;exact⟨⟨_,rfl,O0.out⟩,X0.out⟩
end Go.Proofs.YthomjcjnalfipaaGreatDoor
namespace Go.Proofs.YthomjcjnalfipaaGreatDoor
open Go.RowKit
theorem fault_val {a b:Int} {k:Nat} {p:Int×Nat} (h:p=(a,k)) (hb:b=k):Ending.returned (.agg #[.int .i64 a,.int .i64 b])=.returned (.agg #[.int .i64 p.1,.int .i64 p.2]):=by rw[h,hb]
theorem Wrongs_any (A:Option Addr) (n c:Nat) (l:List Rule) (w:World) (h:Rules w A n c l) :
  Calls Tryz.prog 28 #[.slice A n c] w fun e w'=>e=.returned (.agg #[.int .i64 (wrongRules l).1,.int .i64 (wrongRules l).2])/\Ext w w':=by
 have hm:=h.max;unfold maxLen at hm;have hcap:=h.cap;by_cases hbig:200<n
 ·have H:=hid (wrongRules_big (l:=l) (by rw[h.len];exact hbig));go_enter Tryz.func28,Tryz.ntmps28;go_wp2;refine bodyPost_ret (v:=.agg #[.int .i64 5,.int .i64 0]) (by simp[results,Tryz.results28,go_sem]) rfl ?_;exact⟨fault_val H.out rfl,(Ext.refl w).alloc _⟩
 have HS:=hid (wrongRules_small (l:=l) (by rw[h.len];exact hbig));have hlen:=hid h.len;have e1:=(Ext.refl w).alloc (.cells #[.int .i64 0,.int .i64 0] 34);have k0:(w.alloc (.cells #[.int .i64 0,.int .i64 0] 34)).cell? ⟨w.heap.size,0,none⟩=some (.int .i64 0):=by simp
 have k1:(w.alloc (.cells #[.int .i64 0,.int .i64 0] 34)).cell? ⟨w.heap.size,1,none⟩=some (.int .i64 0):=by simp
 have wr1:=Wr.new w #[.int .i64 0,.int .i64 0] 34;go_enter Tryz.func28,Tryz.ntmps28;go_wp2;generalize w.alloc (.cells #[.int .i64 0,.int .i64 0] 34)=w1 at *;go_loopw [12] (fun i wr=>∃ k:Nat,k<=n/\i=.int .i64 k/\wrongRules l=wrongAt k (l.drop k)/\Ext w1 wr) (fun i _=>n-(intOf i).toNat);case atStart=>exact⟨0,by omega,rfl,HS.out,Ext.refl _⟩
 case round=>
  obtain⟨k,hk,rfl,hkk,hx⟩:=hrel;have HK:=hid hkk;clear hkk;have y0:=hx.cell k0;have y1:=hx.cell k1;have ex:=e1.trans hx;have wx:=wr1.ext hx;have wz:=wx.2;by_cases hlt:k<n
  ·obtain⟨r,hrr⟩:=h.idx hlt;obtain⟨b,off,s,f,A1,n1,c1,A2,n2,c2,A3,n3,c3,A4,n4,c4,q,rfl,⟨_,hne⟩,hv,c0,c1',c2',c3',c4',c5',c6'⟩:=(h.ext ex).rule hrr;have HD:=hid (drop_cons hrr);clear hrr;have ea:=(Ext.refl wr).alloc (.cells #[.bool s,.bool f,.slice A1 n1 c1,.slice A2 n2 c2,.slice A3 n3 c3,.slice A4 n4 c4,.int .i64 q] 61);have HC:=hid (Wrong_any s f A1 n1 c1 A2 n2 c2 A3 n3 c3 A4 n4 c4 q r _ (hv.ext (ea.agree top)));have za:=ea.cell y0;have zb:=ea.cell y1;by_cases hr:wrongRule r=0
   ·have HR:=hid hr;clear hr;go_wp2_with (go_at_call 57;refine HC.out.mono ?_;rintro e w3 ⟨rfl,hx3⟩;rw[HR.out]);go_roundw;case rel=>exact⟨k+1,by omega,by go_num,by rw[HK.out,HD.out,wrongAt_ok HR.out],(hx.trans ea).trans hx3⟩
    case measure=>simp[intOf];omega
   ·have hr':(wrongRule r != 0)=true:=by simpa using hr
    have HR:=hid hr;clear hr;go_wp2_with (go_at_call 57;refine HC.out.mono ?_;rintro e w3 ⟨rfl,hx3⟩;have zc:=hx3.cell za;have zd:=hx3.cell zb;have w3z:=(wx.ext (ea.trans hx3)).2);refine bodyPost_ret (v:=.agg #[.int .i64 (wrongRule r),.int .i64 k]) (by simp[results,Tryz.results28,go_sem,zc,zd]) rfl ?_;exact⟨fault_val (by rw[HK.out,HD.out,wrongAt_bad HR.out]) rfl,ext_set (ext_set ((ex.trans ea).trans hx3) (Nat.le_refl _) _ _) (Nat.le_refl _) _ _⟩
  ·go_wp2;refine bodyPost_ret (v:=.agg #[.int .i64 0,.int .i64 0]) (by simp[results,Tryz.results28,go_sem,y0,y1]) rfl ?_;exact⟨fault_val (by rw[HK.out,drop_end hlen.out hlt];rfl) rfl,ext_set (ext_set ex (Nat.le_refl _) _ _) (Nat.le_refl _) _ _⟩
theorem Limit_any (m:Nat) (w:World) (hm:m<=4000):Calls Tryz.prog 33 #[.int .i64 m] w fun e w'=>e=.returned (.int .i64 ((8*m+40:Nat):Int))/\w=w':=by
 go_enter Tryz.func33,Tryz.ntmps33;go_wp2;go_ret;exact⟨by simp,rfl⟩
def rho (n k j:Nat):Nat:=if j<k\/n-k<=j then n-1-j else j
theorem OwnR.free {α :Type} {R:World->List Value-> α ->Prop} {e:TypeId} {sz base:Nat} {w:World} {A:Option Addr} {n c:Nat} {l:List α} (h:OwnR R e sz base w (.slice A n c) l) {g off:Nat} (hA:A=some ⟨g,off,none⟩) :
  base<=g/\∀ i,w.frozen? ⟨g,i,none⟩=false:=by
 subst hA;obtain⟨xs,⟨_,⟨hv,_⟩ | ⟨g',cap,cur,hv,hb,hh,_⟩⟩,_⟩:=h
 ·cases hv
 ·cases hv;exact⟨hb,fun i=>frozen_of_row w _ i cur e hh⟩
theorem T_int:ElemT Tryz.prog 62 3 1 8:=elemT Tryz.underlying62 (z:=.int .i64 0) (by kernel_rfl) rfl (by omega)
theorem one_newI (w:World) (x:Int) (t:TypeId) (hx:i64 x):Ints (w.alloc (.cells #[.int .i64 x] t)) (some ⟨w.heap.size,0,none⟩) 1 1 [x]:=by
 refine SlR.fresh rfl (by unfold maxLen;omega) fun k u huu=>?_
 match k,huu with
 | 0,huu=>cases huu;exact⟨[.int .i64 x],rfl,⟨rfl,hx⟩,fun j v hv=>by match j,hv with | 0,hv=>simpa using hv⟩
def rRuleO (ok:Nat->Prop):World->List Value->Rule->Prop:=fun w vs r=>
 ∃ s f A1 n1 c1 A2 n2 c2 A3 n3 c3 A4 n4 c4 k,vs=[.bool s,.bool f,.slice A1 n1 c1,.slice A2 n2 c2,.slice A3 n3 c3,.slice A4 n4 c4,.int .i64 k] /\
  r.start=s/\r.fin=f/\SlR (rSl rSpan 2 ok) 1 ok w A1 n1 c1 r.before/\SlR (rSl rSpan 2 ok) 1 ok w A2 n2 c2 r.source/\SlR (rSl rSpan 2 ok) 1 ok w A3 n3 c3 r.after/\SlR rRune 1 ok w A4 n4 c4 r.target/\r.cursor=k/\i64 k
theorem keep_ruleO (ok:Nat->Prop):Keep (rRuleO ok) ok:=by
 intro w w' vs r ha ⟨s,f,A1,n1,c1,A2,n2,c2,A3,n3,c3,A4,n4,c4,k,e,h1,h2,h3,h4,h5,h6,h7,h8⟩;exact⟨s,f,A1,n1,c1,A2,n2,c2,A3,n3,c3,A4,n4,c4,k,e,h1,h2,h3.keep (keep_sl (keep_span ok)) ha,h4.keep (keep_sl (keep_span ok)) ha,h5.keep (keep_sl (keep_span ok)) ha,h6.keep (keep_rune ok) ha,h7,h8⟩
theorem rRuleO_top {ok:Nat->Prop} {w:World} {vs:List Value} {r:Rule} (h:rRuleO ok w vs r):rRule w vs r:=by
 obtain⟨s,f,A1,n1,c1,A2,n2,c2,A3,n3,c3,A4,n4,c4,k,e,h1,h2,h3,h4,h5,h6,h7,h8⟩:=h;exact⟨s,f,A1,n1,c1,A2,n2,c2,A3,n3,c3,A4,n4,c4,k,e,⟨h1,h2,sets_top h3,sets_top h4,sets_top h5,h6.mono (fun _ _ h=>h) (fun _ _=>trivial),h7,h8⟩⟩
theorem one_ruleO (ok:Nat->Prop):One (rRuleO ok):=fun w vs r h=>one_rule w vs r (rRuleO_top h)
theorem rules_lt {w:World} {A:Option Addr} {n c:Nat} {l:List Rule} (h:Rules w A n c l):SlR (rRuleO (fun b=>b<w.heap.size)) 7 (fun b=>b<w.heap.size) w A n c l:=by
 refine (SlR.lt (by omega) h).mono (fun vs r hr=>?_) (fun _ hb=>hb.2);obtain⟨s,f,A1,n1,c1,A2,n2,c2,A3,n3,c3,A4,n4,c4,k,e,hv⟩:=hr;exact⟨s,f,A1,n1,c1,A2,n2,c2,A3,n3,c3,A4,n4,c4,k,e,hv.start,hv.fin,sets_lt hv.before,sets_lt hv.source,sets_lt hv.after,(SlR.lt (by omega) hv.target).mono (fun _ _ h=>h) (fun _ hb=>hb.2),hv.cursor,hv.bound⟩
end Go.Proofs.YthomjcjnalfipaaGreatDoor
