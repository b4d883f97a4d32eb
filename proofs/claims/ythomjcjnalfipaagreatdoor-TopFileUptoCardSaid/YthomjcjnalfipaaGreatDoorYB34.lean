/- A part of the proofs of the Top laws. -/
import Derived.Deep.Cut
import Derived.Deep.CutRange
import Derived.Test.YthomjcjnalfipaaGreatDoorRows
import Derived.ProofKit
import Derived.OpenShut
import Derived.ChangeOld
import Derived.Deep.Fields
import Derived.Test.YthomjcjnalfipaaGreatDoorYB33
set_option linter.all false
set_option maxRecDepth 100000
set_option maxHeartbeats 4000000
open Go.Lib (hid)
namespace Go.Proofs.YthomjcjnalfipaaGreatDoor
open Go.RowKit
def rRow3:World->List Value->Int×Int×Int->Prop:=fun _ vs x=>vs=[.int .i32 x.1,.int .i32 x.2.1,.int .i32 x.2.2]
theorem keep_row3 (ok:Nat->Prop):Keep rRow3 ok:=fun _ _ _ _ _ h=>h
theorem SlR.row3 {ok:Nat->Prop} {w:World} {A:Option Addr} {n c k:Nat} {l:List (Int×Int×Int)} {x:Int×Int×Int} (h:SlR rRow3 3 ok w A n c l) (hx:l[k]? =some x) :
  ∃ b off,A=some ⟨b,off,none⟩/\(b<w.heap.size/\b≠w.heap.size)/\w.cell? ⟨b,off+k*3,none⟩=some (.int .i32 x.1)/\w.cell? ⟨b,off+k*3+1,none⟩=some (.int .i32 x.2.1)/\w.cell? ⟨b,off+k*3+2,none⟩=some (.int .i32 x.2.2):=by
 obtain⟨b,off,vs,e,ho,_,rfl,hc⟩:=h.at_ k x hx;have h0:=hc 0 _ rfl;have hlt:b<w.heap.size:=World.block_lt_of_cell? w _ h0;exact⟨b,off,e,⟨hlt,by omega⟩,by simpa using h0,by simpa using hc 1 _ rfl,by simpa using hc 2 _ rfl⟩
theorem rowsL_bd:∀ x∈rowsL,97<=x.1/\x.1<=x.2.1/\x.2.1<=1119/\32<=x.2.2/\x.2.2<=80:=by
 intro x hx;simp only[rowsL,List.mem_cons,List.not_mem_nil,or_false] at hx;rcases hx with rfl | rfl | rfl | rfl | rfl | rfl | rfl <;> simp
theorem rows_any (w:World):Calls Tryz.prog 32 #[] w fun e w'=>∃ A c,e=.returned (.slice A 7 c)/\SlR rRow3 3 top w' A 7 c rowsL/\Ext w w':=by
 have e1:=(Ext.refl w).alloc (.cells #[.int .i32 97,.int .i32 122,.int .i32 32,.int .i32 224,.int .i32 246,.int .i32 32,.int .i32 248,.int .i32 254,.int .i32 32,.int .i32 945,.int .i32 961,.int .i32 32,.int .i32 963,.int .i32 969,.int .i32 32,.int .i32 1072,.int .i32 1103,.int .i32 32,.int .i32 1104,.int .i32 1119,.int .i32 80] 83)
 have hs:SlR rRow3 3 top (w.alloc (.cells #[.int .i32 97,.int .i32 122,.int .i32 32,.int .i32 224,.int .i32 246,.int .i32 32,.int .i32 248,.int .i32 254,.int .i32 32,.int .i32 945,.int .i32 961,.int .i32 32,.int .i32 963,.int .i32 969,.int .i32 32,.int .i32 1072,.int .i32 1103,.int .i32 32,.int .i32 1104,.int .i32 1119,.int .i32 80] 83)) (some ⟨w.heap.size,0,none⟩) 7 7 rowsL:=
  SlR.fresh rfl (by unfold maxLen;omega) fun k u hu=>by
   match k,hu with
   | 0,hu=>cases hu;exact⟨[_,_,_],rfl,rfl,fun j v hv=>by match j,hv with | 0,hv=>simpa using hv | 1,hv=>simpa using hv | 2,hv=>simpa using hv⟩
   | 1,hu=>cases hu;exact⟨[_,_,_],rfl,rfl,fun j v hv=>by match j,hv with | 0,hv=>simpa using hv | 1,hv=>simpa using hv | 2,hv=>simpa using hv⟩
   | 2,hu=>cases hu;exact⟨[_,_,_],rfl,rfl,fun j v hv=>by match j,hv with | 0,hv=>simpa using hv | 1,hv=>simpa using hv | 2,hv=>simpa using hv⟩
   | 3,hu=>cases hu;exact⟨[_,_,_],rfl,rfl,fun j v hv=>by match j,hv with | 0,hv=>simpa using hv | 1,hv=>simpa using hv | 2,hv=>simpa using hv⟩
   | 4,hu=>cases hu;exact⟨[_,_,_],rfl,rfl,fun j v hv=>by match j,hv with | 0,hv=>simpa using hv | 1,hv=>simpa using hv | 2,hv=>simpa using hv⟩
   | 5,hu=>cases hu;exact⟨[_,_,_],rfl,rfl,fun j v hv=>by match j,hv with | 0,hv=>simpa using hv | 1,hv=>simpa using hv | 2,hv=>simpa using hv⟩
   | 6,hu=>cases hu;exact⟨[_,_,_],rfl,rfl,fun j v hv=>by match j,hv with | 0,hv=>simpa using hv | 1,hv=>simpa using hv | 2,hv=>simpa using hv⟩
 have HS:=hid hs;clear hs;go_enter Tryz.func32,Tryz.ntmps32;go_wp2;go_ret;exact⟨_,_,rfl,HS.out,e1⟩
theorem one_new32 (w:World) (x:Int) (t:TypeId) (hx:i32 x):Runes (w.alloc (.cells #[.int .i32 x] t)) (some ⟨w.heap.size,0,none⟩) 1 1 [x]:=by
 refine SlR.fresh rfl (by unfold maxLen;omega) fun k u huu=>?_
 match k,huu with
 | 0,huu=>cases huu;exact⟨[.int .i32 x],rfl,⟨rfl,hx⟩,fun j v hv=>by match j,hv with | 0,hv=>simpa using hv⟩
theorem upGo_yes {x:Int×Int×Int} {l:List (Int×Int×Int)} {r:Int} (h:x.1<=r/\r<=x.2.1):upGo (x::l) r=r-x.2.2:=by unfold upGo;rw[if_pos h]
theorem upGo_no {x:Int×Int×Int} {l:List (Int×Int×Int)} {r:Int} (h:¬ (x.1<=r/\r<=x.2.1)):upGo (x::l) r=upGo l r:=by rw[upGo,if_neg h]
theorem loGo_yes {x:Int×Int×Int} {l:List (Int×Int×Int)} {r:Int} (h:x.1-x.2.2<=r/\r<=x.2.1-x.2.2):loGo (x::l) r=r+x.2.2:=by unfold loGo;rw[if_pos h]
theorem loGo_no {x:Int×Int×Int} {l:List (Int×Int×Int)} {r:Int} (h:¬ (x.1-x.2.2<=r/\r<=x.2.1-x.2.2)):loGo (x::l) r=loGo l r:=by rw[loGo,if_neg h]
theorem upGo_bd {r:Int} (hr:i32 r):∀ {l:List (Int×Int×Int)},(∀ x∈l,97<=x.1/\x.1<=x.2.1/\x.2.1<=1119/\32<=x.2.2/\x.2.2<=80)->i32 (upGo l r)
 | [],_=>hr
 | x::l,h=>by
  have h1:=h x (by simp);unfold upGo;unfold i32 at hr ⊢;split
  ·omega
  ·exact upGo_bd hr fun y hy=>h y (by simp[hy])
theorem loGo_bd {r:Int} (hr:i32 r):∀ {l:List (Int×Int×Int)},(∀ x∈l,97<=x.1/\x.1<=x.2.1/\x.2.1<=1119/\32<=x.2.2/\x.2.2<=80)->i32 (loGo l r)
 | [],_=>hr
 | x::l,h=>by
  have h1:=h x (by simp);unfold loGo;unfold i32 at hr ⊢;split
  ·omega
  ·exact loGo_bd hr fun y hy=>h y (by simp[hy])
theorem upF_bd {r:Int} (h:i32 r):i32 (upF r):=upGo_bd h rowsL_bd
theorem loF_bd {r:Int} (h:i32 r):i32 (loF r):=loGo_bd h rowsL_bd
theorem Upper_any (r:Int) (hr:i32 r) (w:World):Calls Tryz.prog 15 #[.int .i32 r] w fun e w'=>e=.returned (.int .i32 (upF r))/\Ext w w':=by
 have HI:=hid (rowsL_bd);have HRR:=hid hr;go_enter Tryz.func15,Tryz.ntmps15;go_wp2_with (go_at_call 32;refine (rows_any w).mono ?_;rintro e w1 ⟨A,c,rfl,hs,hx1⟩;have hcap:=hs.cap;have HS:=hid hs;clear hs);go_loopw [7] (fun v wr=>∃ k:Nat,k<=7/\v=.int .i64 k/\Hid (upF r=upGo (rowsL.drop k) r)/\Ext w1 wr) (fun v _=>7-(intOf v).toNat);case atStart=>exact⟨0,by omega,rfl,hid rfl,Ext.refl _⟩
 case round=>
  obtain⟨k,hk,rfl,HK,hx⟩:=hrel;by_cases hlt:k<7
  ·obtain⟨x,hxx⟩:=HS.out.idx hlt;obtain⟨b,off,rfl,⟨_,hne⟩,c0,c1,c2⟩:=(HS.out.ext (keep_row3 top) hx).row3 hxx;obtain⟨b1,b2,b3,b4,b5⟩:=HI.out x (List.mem_of_getElem? hxx);have HD:=hid (drop_cons hxx);obtain⟨lo,hi,dd⟩:=x;dsimp only at *;have hlt':(k:Int)<7:=by omega
   have ea:=(Ext.refl wr).alloc (.cells #[.int .i32 lo,.int .i32 hi,.int .i32 dd] 83);have w1':IntKind.i32.wrap (lo-dd)=lo-dd:=IntWalk.i32_in _ (by omega);have w2':IntKind.i32.wrap (hi-dd)=hi-dd:=IntWalk.i32_in _ (by omega);clear hxx;by_cases h1:lo<=r
   ·by_cases h2:r<=hi
    ·have E:=hid (show upF r=r-dd by rw[HK.out,HD.out,upGo_yes ⟨h1,h2⟩]);have w3':IntKind.i32.wrap (r-dd)=r-dd:=IntWalk.i32_in _ (by omega);have d1:decide (lo<=r)=true:=decide_eq_true h1;have d2:decide (r<=hi)=true:=decide_eq_true h2;go_wp2
     skip
     go_ret;rw[E.out];exact⟨rfl,hx1.trans (hx.trans ea)⟩
    ·have E:=hid (show upF r=upGo (rowsL.drop (k+1)) r by rw[HK.out,HD.out,upGo_no (fun h=>h2 h.2)]);have d1:decide (lo<=r)=true:=decide_eq_true h1;have d2:decide (r<=hi)=false:=decide_eq_false h2;go_wp2
     skip
     go_roundw;case rel=>exact⟨k+1,by omega,by go_num,E,hx.trans ea⟩
     case measure=>simp[intOf];omega
   ·have E:=hid (show upF r=upGo (rowsL.drop (k+1)) r by rw[HK.out,HD.out,upGo_no (fun h=>h1 h.1)]);have d1:decide (lo<=r)=false:=decide_eq_false h1;go_wp2
    skip
    go_roundw;case rel=>exact⟨k+1,by omega,by go_num,E,hx.trans ea⟩
    case measure=>simp[intOf];omega
  ·have hk7:k=7:=by omega
   subst hk7;go_wp2;go_ret;rw[HK.out];exact⟨rfl,hx1.trans hx⟩
theorem Lower_any (r:Int) (hr:i32 r) (w:World):Calls Tryz.prog 16 #[.int .i32 r] w fun e w'=>e=.returned (.int .i32 (loF r))/\Ext w w':=by
 have HI:=hid (rowsL_bd);have HRR:=hid hr;go_enter Tryz.func16,Tryz.ntmps16;go_wp2_with (go_at_call 32;refine (rows_any w).mono ?_;rintro e w1 ⟨A,c,rfl,hs,hx1⟩;have hcap:=hs.cap;have HS:=hid hs;clear hs);go_loopw [7] (fun v wr=>∃ k:Nat,k<=7/\v=.int .i64 k/\Hid (loF r=loGo (rowsL.drop k) r)/\Ext w1 wr) (fun v _=>7-(intOf v).toNat);case atStart=>exact⟨0,by omega,rfl,hid rfl,Ext.refl _⟩
 case round=>
  obtain⟨k,hk,rfl,HK,hx⟩:=hrel;by_cases hlt:k<7
  ·obtain⟨x,hxx⟩:=HS.out.idx hlt;obtain⟨b,off,rfl,⟨_,hne⟩,c0,c1,c2⟩:=(HS.out.ext (keep_row3 top) hx).row3 hxx;obtain⟨b1,b2,b3,b4,b5⟩:=HI.out x (List.mem_of_getElem? hxx);have HD:=hid (drop_cons hxx);obtain⟨lo,hi,dd⟩:=x;dsimp only at *;have hlt':(k:Int)<7:=by omega
   have ea:=(Ext.refl wr).alloc (.cells #[.int .i32 lo,.int .i32 hi,.int .i32 dd] 83);have w1':IntKind.i32.wrap (lo-dd)=lo-dd:=IntWalk.i32_in _ (by omega);have w2':IntKind.i32.wrap (hi-dd)=hi-dd:=IntWalk.i32_in _ (by omega);clear hxx;by_cases h1:lo-dd<=r
   ·by_cases h2:r<=hi-dd
    ·have E:=hid (show loF r=r+dd by rw[HK.out,HD.out,loGo_yes ⟨h1,h2⟩]);have w3':IntKind.i32.wrap (r+dd)=r+dd:=IntWalk.i32_in _ (by omega);have d1:decide (lo-dd<=r)=true:=decide_eq_true h1;have d2:decide (r<=hi-dd)=true:=decide_eq_true h2;go_wp2
     skip
     go_ret;rw[E.out];exact⟨rfl,hx1.trans (hx.trans ea)⟩
    ·have E:=hid (show loF r=loGo (rowsL.drop (k+1)) r by rw[HK.out,HD.out,loGo_no (fun h=>h2 h.2)]);have d1:decide (lo-dd<=r)=true:=decide_eq_true h1;have d2:decide (r<=hi-dd)=false:=decide_eq_false h2;go_wp2
     skip
     go_roundw;case rel=>exact⟨k+1,by omega,by go_num,E,hx.trans ea⟩
     case measure=>simp[intOf];omega
   ·have E:=hid (show loF r=loGo (rowsL.drop (k+1)) r by rw[HK.out,HD.out,loGo_no (fun h=>h1 h.1)]);have d1:decide (lo-dd<=r)=false:=decide_eq_false h1;go_wp2
    skip
    go_roundw;case rel=>exact⟨k+1,by omega,by go_num,E,hx.trans ea⟩
    case measure=>simp[intOf];omega
  ·have hk7:k=7:=by omega
   subst hk7;go_wp2;go_ret;rw[HK.out];exact⟨rfl,hx1.trans hx⟩
theorem mapped_any (A:Option Addr) (n c:Nat) (l:List Int) (w:World) (g:FuncId) (F:Int->Int) (h:Runes w A n c l) (hn:n<=60000) (eg:∀ args w,(callFunc g args).run Tryz.prog w=.ok (.enter g args) w)
  (hF:∀ W r,i32 r->Calls Tryz.prog g #[.int .i32 r] W fun e w'=>e=.returned (.int .i32 (F r))/\Ext W w') (hb:∀ r,i32 r->i32 (F r)) :
  Calls Tryz.prog 92 #[.slice A n c,.func (.func g) #[] #[]] w fun e w'=>∃ v,e=.returned v/\OwnR rRune 21 1 w.heap.size w' v (l.map F)/\Ext w w':=by
 have hm:=h.max;unfold maxLen at hm;have hcap:=h.cap;have hlen:=hid h.len;have HF:=hid hF;have HB:=hid hb;clear hF hb;go_enter Tryz.func92,Tryz.ntmps92;go_wp2;go_loopw [5,10] (fun v i wr=>∃ k:Nat,k<=n/\i=.int .i64 k/\OwnR rRune 21 1 w.heap.size wr v ((l.take k).map F)/\Ext w wr) (fun _ i _=>n-(intOf i).toNat);case atStart=>exact⟨0,by omega,rfl,OwnR.nil _ _ _ _ _,Ext.refl _⟩
 case round=>
  obtain⟨k,hk,rfl,o,hx⟩:=hrel;by_cases hlt:k<n
  ·obtain⟨x,hxx⟩:=h.idx hlt;obtain⟨b,off,rfl,⟨_,hne⟩,hc,hx1,hx2⟩:=(h.ext hx).rune hxx;have TK:=hid (take_snoc hxx);have C:=hid (HF.out wr x ⟨hx1,hx2⟩);have hFb:=HB.out x ⟨hx1,hx2⟩;have HL:Hid (((l.take k).map F).length<=60000-1):=hid (by rw[List.length_map,List.length_take];omega);clear hxx;go_wp2_with fail;refine C.out.mono ?_;rintro e w2 ⟨rfl,y2⟩;have f2:=(Ext.refl w2).alloc (.cells #[.int .i32 (F x)] 21);have S2:=hid (one_new32 w2 (F x) 21 hFb);have O2:=hid (o.ext (keep_rune bot) (y2.trans f2));have X2:=hid (hx.trans (y2.trans f2));clear o hx y2;go_wp2_with (at_builtin;refine wpList_appS T_rune (by omega) rfl (.tmp 14) (.tmp 18) rfl rfl O2.out rfl S2.out (fun _ _ h=>h) one_rune (keep_rune bot) (bot_no _) (by have:=HL.out;omega) X2.out.size ?_;intro v3 w3 o3 g3 hat3;have x3:=X2.out.app g3 O2.out);go_roundw;case rel=>exact⟨k+1,by omega,by go_num,by rw[TK.out,List.map_append];exact o3,x3⟩
   case measure=>simp[intOf];omega
  ·have hkn:l.take k=l:=List.take_of_length_le (by rw[hlen.out];omega);rw[hkn] at o;go_wp2;go_ret;exact⟨_,rfl,o,hx⟩
theorem lit_ne {s t:ByteArray} {l:List UInt8} (h:¬ s=t) (e:t.data.toList=l):(s.toList==l)=false:=by
 have:=str_ne h
 rwa [Lib.toList_data t,e] at this
def PassPost (w:World) (T:List Int×Int) (e:Ending) (w':World):Prop:=(∃ A n c,e=.returned (.tuple #[.slice A n c,.int .i64 T.2])/\Runes w' A n c T.1)/\Ext w w'
theorem nil_runes (w:World):Runes w none 0 0 []:=⟨rfl,Nat.le_refl _,by unfold maxLen;omega,fun k x h=>by simp at h⟩
section
variable (A : Option Addr) (n c : Nat) (X : Option Addr) (m d : Nat) (t : List Int) (w : World)
theorem pass_upper (ht:Runes w X m d t) (hm:m<=4000):Calls Tryz.prog 56 #[.agg #[.string upperS,.slice A n c],.slice X m d] w (PassPost w (t.map upF,0)):=by
 have eg:∀ args w,(callFunc 15 args).run Tryz.prog w=.ok (.enter 15 args) w:=enters Tryz.func15 (by kernel_rfl) rfl;have e1:=(Ext.refl w).alloc (.cells #[.string upperS,.slice A n c] 42);have HM:=hid (mapped_any X m d t _ 15 upF (ht.ext e1) (by omega) eg (fun W r hr=>Upper_any r hr W) (fun r hr=>upF_bd hr));unfold upperS at *;go_enter Tryz.func56,Tryz.ntmps56;go_wp2_with (go_at_call 92;refine HM.out.mono ?_;rintro e w2 ⟨v,rfl,o,x2⟩;obtain⟨A',c',hv,hs⟩:=o.top;generalize (t.map upF).length=N at hv hs;subst hv);refine bodyPost_ret (v:=.tuple #[.slice A' N c',.int .i64 0]) (by simp[results,Tryz.results56,go_sem]) rfl ?_;exact⟨⟨_,_,_,rfl,hs⟩,e1.trans x2⟩
theorem pass_lower (ht:Runes w X m d t) (hm:m<=4000):Calls Tryz.prog 56 #[.agg #[.string lowerS,.slice A n c],.slice X m d] w (PassPost w (t.map loF,0)):=by
 have eg:∀ args w,(callFunc 16 args).run Tryz.prog w=.ok (.enter 16 args) w:=enters Tryz.func16 (by kernel_rfl) rfl;have e1:=(Ext.refl w).alloc (.cells #[.string lowerS,.slice A n c] 42);have HM:=hid (mapped_any X m d t _ 16 loF (ht.ext e1) (by omega) eg (fun W r hr=>Lower_any r hr W) (fun r hr=>loF_bd hr));unfold lowerS at *;go_enter Tryz.func56,Tryz.ntmps56;go_wp2_with (go_at_call 92;refine HM.out.mono ?_;rintro e w2 ⟨v,rfl,o,x2⟩;obtain⟨A',c',hv,hs⟩:=o.top;generalize (t.map loF).length=N at hv hs;subst hv);refine bodyPost_ret (v:=.tuple #[.slice A' N c',.int .i64 0]) (by simp[results,Tryz.results56,go_sem]) rfl ?_;exact⟨⟨_,_,_,rfl,hs⟩,e1.trans x2⟩
theorem pass_remove:Calls Tryz.prog 56 #[.agg #[.string removeS,.slice A n c],.slice X m d] w (PassPost w ([],0)):=by
 have e1:=(Ext.refl w).alloc (.cells #[.string removeS,.slice A n c] 42);unfold removeS at *;go_enter Tryz.func56,Tryz.ntmps56;go_wp2;refine bodyPost_ret (v:=.tuple #[.slice none 0 0,.int .i64 0]) (by simp[results,Tryz.results56,go_sem]) rfl ?_;exact⟨⟨_,_,_,rfl,nil_runes _⟩,e1⟩
theorem pass_null (ht:Runes w X m d t):Calls Tryz.prog 56 #[.agg #[.string nullS,.slice A n c],.slice X m d] w (PassPost w (t,0)):=by
 have e1:=(Ext.refl w).alloc (.cells #[.string nullS,.slice A n c] 42);unfold nullS at *;go_enter Tryz.func56,Tryz.ntmps56;go_wp2;refine bodyPost_ret (v:=.tuple #[.slice X m d,.int .i64 0]) (by simp[results,Tryz.results56,go_sem]) rfl ?_;exact⟨⟨_,_,_,rfl,ht.ext e1⟩,e1⟩
theorem pass_rules (nm:ByteArray) (l:List Rule) (h1:nm≠upperS) (h2:nm≠lowerS) (h3:nm≠removeS) (h4:nm≠nullS) (h:Rules w A n c l) (ht:Runes w X m d t) :
  Calls Tryz.prog 56 #[.agg #[.string nm,.slice A n c],.slice X m d] w (PassPost w (vmV l t,(vmE l t).1)):=by
 have e1:=(Ext.refl w).alloc (.cells #[.string nm,.slice A n c] 42);have g1:(nm.toList==[117,112,112,101,114])=false:=lit_ne h1 rfl;have g2:(nm.toList==[108,111,119,101,114])=false:=lit_ne h2 rfl;have g3:(nm.toList==[114,101,109,111,118,101])=false:=lit_ne h3 rfl;have g4:(nm.toList==[110,117,108,108])=false:=lit_ne h4 rfl;have HP:=hid (VmPlay_any A n c l X m d t _ (h.ext e1) (ht.ext e1));clear h1 h2 h3 h4 h ht;by_cases hv:(vmE l t).1≠0
 ·have HV:=hid hv;have HVV:Hid (vmV l t=[]):=hid (by unfold vmV;rw[if_pos hv]);clear hv;go_enter Tryz.func56,Tryz.ntmps56;go_wp2_with (go_at_call 93;refine HP.out.mono ?_;rintro e w2 ⟨x2,he⟩;rw[if_pos HV.out] at he;subst he);go_quiet (fail);go_wp2;refine bodyPost_ret (v:=.tuple #[.slice none 0 0,.int .i64 (vmE l t).1]) (by simp[results,Tryz.results56,go_sem]) rfl ?_;refine⟨⟨none,0,0,rfl,by rw[HVV.out];exact nil_runes _⟩,((((e1.trans x2).alloc _).alloc _).drewN _)⟩
 ·have HV:=hid hv;have HV0:Hid ((vmE l t).1=0):=hid (Decidable.not_not.1 hv);clear hv;go_enter Tryz.func56,Tryz.ntmps56;go_wp2_with (go_at_call 93;refine HP.out.mono ?_;rintro e w2 ⟨x2,he⟩;rw[if_neg HV.out] at he;obtain⟨A2,n2,c2,s,p,rfl,hs⟩:=he);have HS:=hid hs;clear hs;go_quiet (fail);go_wp2;refine bodyPost_ret (v:=.tuple #[.slice A2 n2 c2,.int .i64 0]) (by simp[results,Tryz.results56,go_sem]) rfl ?_;refine⟨⟨A2,n2,c2,by rw[HV0.out],?_⟩,((((e1.trans x2).alloc _).alloc _).drewN _)⟩;exact (HS.out.mono (fun _ _ h=>h) (fun _ _=>trivial)).ext (keep_rune top) ((((Ext.refl w2).alloc _).alloc _).drewN _)
theorem pass_any (p:Pas) (h:Rules w A n c p.rules) (ht:Runes w X m d t) (hm:m<=4000):Calls Tryz.prog 56 #[.agg #[.string p.name,.slice A n c],.slice X m d] w (PassPost w (passF p t)):=by
 obtain⟨nm,l⟩:=p;by_cases h1:nm=upperS
 ·subst h1;rw[passF_upper rfl];exact pass_upper A n c X m d t w ht hm
 by_cases h2:nm=lowerS
 ·subst h2;rw[passF_lower rfl];exact pass_lower A n c X m d t w ht hm
 by_cases h3:nm=removeS
 ·subst h3;rw[passF_remove rfl];exact pass_remove A n c X m d w
 by_cases h4:nm=nullS
 ·subst h4;rw[passF_null rfl];exact pass_null A n c X m d t w ht
 rw[passF_rules h1 h2 h3 h4];exact pass_rules A n c X m d t w nm l h1 h2 h3 h4 h ht
end
abbrev Pss (ok:Nat->Prop) (w:World) (A:Option Addr) (n c:Nat) (l:List Pas):Prop:=SlR (rPas ok) 2 ok w A n c l
theorem SlR.pas {ok ok2:Nat->Prop} {w:World} {A:Option Addr} {n c k:Nat} {l:List Pas} {x:Pas} (h:SlR (rPas ok) 2 ok2 w A n c l) (hx:l[k]? =some x) :
  ∃ b off A' n' c',A=some ⟨b,off,none⟩/\(b<w.heap.size/\b≠w.heap.size)/\x.name.size<=maxLen/\SlR (rRuleO ok) 7 ok w A' n' c' x.rules/\w.cell? ⟨b,off+k*2,none⟩=some (.string x.name) /\
   w.cell? ⟨b,off+k*2+1,none⟩=some (.slice A' n' c'):=by
 obtain⟨b,off,vs,e,ho,_,⟨A',n',c',rfl,hs,hr⟩,hc⟩:=h.at_ k x hx;have h0:=hc 0 _ rfl;have hlt:b<w.heap.size:=World.block_lt_of_cell? w _ h0;exact⟨b,off,A',n',c',e,⟨hlt,by omega⟩,hs,hr,by simpa using h0,by simpa using hc 1 _ rfl⟩
theorem fault_err (x y:Int) (W:World):(Instr.field 34 (.agg #[.int .i64 x,.int .i64 y]) 0).run Tryz.prog W=.ok (.int .i64 x) W:=by
 kernel_rfl
theorem wrongPs_cons {p:Pas} {ps:List Pas} {k:Nat}:wrongPs k (p::ps)=if wrongPas p≠0 then (wrongPas p,k) else wrongPs (k+1) ps:=rfl
section
variable (f : Bool) (A1 : Option Addr) (n1 c1 : Nat) (A2 : Option Addr) (n2 c2 : Nat) (on : List Sp) (ps : List Pas) (w : World)
theorem chainWrong_any (h1:Spans w A1 n1 c1 on) (h2:Pss top w A2 n2 c2 ps) :
  Calls Tryz.prog 24 #[.agg #[.bool f,.slice A1 n1 c1,.slice A2 n2 c2]] w fun e w'=>e=.returned (.agg #[.int .i64 (wrongScript ⟨f,on,ps⟩).1,.int .i64 (wrongScript ⟨f,on,ps⟩).2])/\Ext w w':=by
 have e1:Ext w ((w.alloc (.cells #[.bool f,.slice A1 n1 c1,.slice A2 n2 c2] 26)).alloc (.cells #[.int .i64 0,.int .i64 0] 34)):=((Ext.refl w).alloc _).alloc _;have k0:((w.alloc (.cells #[.bool f,.slice A1 n1 c1,.slice A2 n2 c2] 26)).alloc (.cells #[.int .i64 0,.int .i64 0] 34)).cell? ⟨w.heap.size,0,none⟩=some (.bool f):=by simp
 have k1:((w.alloc (.cells #[.bool f,.slice A1 n1 c1,.slice A2 n2 c2] 26)).alloc (.cells #[.int .i64 0,.int .i64 0] 34)).cell? ⟨w.heap.size,1,none⟩=some (.slice A1 n1 c1):=by simp
 have k2:((w.alloc (.cells #[.bool f,.slice A1 n1 c1,.slice A2 n2 c2] 26)).alloc (.cells #[.int .i64 0,.int .i64 0] 34)).cell? ⟨w.heap.size,2,none⟩=some (.slice A2 n2 c2):=by simp
 have k3:((w.alloc (.cells #[.bool f,.slice A1 n1 c1,.slice A2 n2 c2] 26)).alloc (.cells #[.int .i64 0,.int .i64 0] 34)).cell? ⟨w.heap.size+1,0,none⟩=some (.int .i64 0):=by simp
 have k4:((w.alloc (.cells #[.bool f,.slice A1 n1 c1,.slice A2 n2 c2] 26)).alloc (.cells #[.int .i64 0,.int .i64 0] 34)).cell? ⟨w.heap.size+1,1,none⟩=some (.int .i64 0):=by simp
 have wb:=Wr.new (w.alloc (.cells #[.bool f,.slice A1 n1 c1,.slice A2 n2 c2] 26)) #[.int .i64 0,.int .i64 0] 34;rw[World.size_alloc] at wb;have HS:=hid (setsWrong_any A1 n1 c1 on _ (h1.ext e1));have hlen:=hid h2.len;have hcap:=h2.cap;have hmax:=h2.max;unfold maxLen at hmax;have hs2:w.heap.size<((w.alloc (.cells #[.bool f,.slice A1 n1 c1,.slice A2 n2 c2] 26)).alloc (.cells #[.int .i64 0,.int .i64 0] 34)).heap.size:=by simp;omega
 have hfl:=fault_err;by_cases hbad:f=true/\wrongSet on≠0
 ·obtain⟨rfl,hb⟩:=hbad;have HW:=hid (show wrongScript ⟨true,on,ps⟩=(wrongSet on,0) by unfold wrongScript;rw[if_pos ⟨rfl,hb⟩]);have hb':(wrongSet on != 0)=true:=by simpa using hb
  rw[HW.out];clear HW hb;generalize wrongSet on=q at *;go_enter Tryz.func24,Tryz.ntmps24;go_upto_region 1 with fail;generalize (w.alloc (.cells #[.bool true,.slice A1 n1 c1,.slice A2 n2 c2] 26)).alloc (.cells #[.int .i64 0,.int .i64 0] 34)=w1 at *;go_wp2_with (go_at_call 50;refine HS.out.mono ?_;rintro e w2 ⟨rfl,x2⟩;have v3:=x2.cell k3;have v4:=x2.cell k4;have vb:=(wb.ext x2).2;have nb:=wb.lt x2);refine bodyPost_ret (v:=.agg #[.int .i64 q,.int .i64 0]) (by simp[results,Tryz.results24,go_sem,v3,v4,nb]) rfl ?_;exact⟨rfl,ext_set (ext_set (e1.trans x2) (by omega) _ _) (by omega) _ _⟩
 have HQ:f=true->wrongSet on=0:=fun hf=>Decidable.byContradiction fun hh=>hbad ⟨hf,hh⟩;have HW:=hid (show wrongScript ⟨f,on,ps⟩=if 60<n2 then (5,0) else wrongPs 0 ps by unfold wrongScript;rw[if_neg hbad];show (if 60<ps.length then _ else _)=_;rw[hlen.out]);clear hbad;by_cases hbig:60<n2
 ·have hbd:decide ((60:Int)<(n2:Int))=true:=decide_eq_true (by omega);rw[if_pos hbig] at HW;rw[HW.out];clear HW;cases f
  ·go_enter Tryz.func24,Tryz.ntmps24;go_upto_region 1 with fail;generalize (w.alloc (.cells #[.bool false,.slice A1 n1 c1,.slice A2 n2 c2] 26)).alloc (.cells #[.int .i64 0,.int .i64 0] 34)=w1 at *;have vb:=wb.2;have nb:=wb.1;go_wp2;refine bodyPost_ret (v:=.agg #[.int .i64 5,.int .i64 0]) (by simp[results,Tryz.results24,go_sem,k3,k4,nb]) rfl ?_;exact⟨rfl,ext_set (ext_set e1 (by omega) _ _) (by omega) _ _⟩
  ·have hq:=HQ rfl;rw[hq] at HS;go_enter Tryz.func24,Tryz.ntmps24;go_upto_region 1 with fail;generalize (w.alloc (.cells #[.bool true,.slice A1 n1 c1,.slice A2 n2 c2] 26)).alloc (.cells #[.int .i64 0,.int .i64 0] 34)=w1 at *;go_wp2_with (go_at_call 50;refine HS.out.mono ?_;rintro e w2 ⟨rfl,x2⟩;have j2:=x2.cell k2;have v3:=x2.cell k3;have v4:=x2.cell k4;have vb:=(wb.ext x2).2;have nb:=wb.lt x2);refine bodyPost_ret (v:=.agg #[.int .i64 5,.int .i64 0]) (by simp[results,Tryz.results24,go_sem,v3,v4,nb]) rfl ?_;exact⟨rfl,ext_set (ext_set (e1.trans x2) (by omega) _ _) (by omega) _ _⟩
 rw[if_neg hbig] at HW;have hbd:decide ((60:Int)<(n2:Int))=false:=decide_eq_false (by omega);rw[HW.out];clear HW;have h2h:=hid h2;cases f
 case' false=>
  go_enter Tryz.func24,Tryz.ntmps24;go_upto_region 1 with fail;generalize (w.alloc (.cells #[.bool false,.slice A1 n1 c1,.slice A2 n2 c2] 26)).alloc (.cells #[.int .i64 0,.int .i64 0] 34)=w1 at *;have x2:=Ext.refl w1;go_wp2
 case' true=>
  have hq:=HQ rfl;rw[hq] at HS;go_enter Tryz.func24,Tryz.ntmps24;go_upto_region 1 with fail;generalize (w.alloc (.cells #[.bool true,.slice A1 n1 c1,.slice A2 n2 c2] 26)).alloc (.cells #[.int .i64 0,.int .i64 0] 34)=w1 at *;go_wp2_with (go_at_call 50;refine HS.out.mono ?_;rintro e w2 ⟨rfl,x2⟩;have j2:=x2.cell k2)
 all_goals
  go_loopw [24] (fun v wr=>∃ k:Nat,k<=n2/\v=.int .i64 k/\Hid (wrongPs 0 ps=wrongPs k (ps.drop k))/\Ext w1 wr) (fun v _=>n2-(intOf v).toNat);case atStart=>exact⟨0,by omega,rfl,hid rfl,x2⟩
  case round=>
   obtain⟨k,hk,rfl,HK,hx⟩:=hrel;have exw:=e1.trans hx;have v3:=hx.cell k3;have v4:=hx.cell k4;have vb:=(wb.ext hx).2;have nb:=wb.lt hx;by_cases hlt:k<n2
   ·obtain⟨p,hpp⟩:=h2h.out.idx hlt;obtain⟨b,off,A',n',c',rfl,⟨hb0,_⟩,hps,hr,c0,c1'⟩:=SlR.pas (h2h.out.ext (keep_pas top) exw) hpp;have hne:b≠wr.heap.size:=by omega
    have HD:=hid (show wrongPs 0 ps=if wrongPas p≠0 then (wrongPas p,k) else wrongPs (k+1) (ps.drop (k+1)) by rw[HK.out,drop_cons hpp,wrongPs_cons]);obtain⟨nm,rs⟩:=p;dsimp only at *;have ea:=(Ext.refl wr).alloc (.cells #[.string nm,.slice A' n' c'] 42);have HRl:=hid hr.len;have hrm:=hr.max;unfold maxLen at hrm;have HWr:=hid (fun W (e:Ext wr W)=>Wrongs_any A' n' c' rs W ((hr.ext (keep_ruleO top) e).mono (fun _ _ h=>rRuleO_top h) (fun _ _=>trivial)));clear hpp hr;by_cases hnm:nm=.empty
    ·have gn:(nm.toList==[])=true:=by rw[hnm,Lib.toList_data];rfl
     have HP:=hid (show wrongPas ⟨nm,rs⟩=(wrongRules rs).1 by unfold wrongPas;rw[if_pos hnm]);rw[HP.out] at HD;clear hnm HP;obtain⟨WR,hWR⟩:∃ z,z=wrongRules rs:=⟨_,rfl⟩
     rw[<- hWR] at HD HWr;obtain⟨q1,q2⟩:=WR;clear hWR;dsimp only at HD;by_cases hz:q1=0
     ·subst hz;have HK2:=hid (show wrongPs 0 ps=wrongPs (k+1) (ps.drop (k+1)) by rw[HD.out];simp);clear HD;go_wp2_with (go_at_call 28;refine (HWr.out _ ea).mono ?_;rintro e w6 ⟨rfl,x6⟩);go_roundw;case rel=>exact⟨k+1,by omega,by go_num,HK2,hx.trans (ea.trans x6)⟩
      case measure=>simp[intOf];omega
     ·have HK2:=hid (show wrongPs 0 ps=(q1,k) by rw[HD.out,if_pos hz]);have gz:(q1 != 0)=true:=by simpa using hz
      clear HD hz;go_wp2_with (go_at_call 28;refine (HWr.out _ ea).mono ?_;rintro e w6 ⟨rfl,x6⟩;have x7:=hx.trans (ea.trans x6);have u3:=x7.cell k3;have u4:=x7.cell k4;have ub:=(wb.ext x7).2;have un:=wb.lt x7);refine bodyPost_ret (v:=.agg #[.int .i64 q1,.int .i64 k]) (by simp[results,Tryz.results24,go_sem,u3,u4,un]) rfl ?_;exact⟨by rw[HK2.out],ext_set (ext_set (e1.trans x7) (by omega) _ _) (by omega) _ _⟩
    ·have gn:(nm.toList==[])=false:=lit_ne hnm rfl;obtain⟨cnd,hcnd⟩:∃ z,z=(passS.any fun x=>decide (nm=x)):=⟨_,rfl⟩
     have HP:=hid (show wrongPas ⟨nm,rs⟩=if !cnd then 7 else if 0<n' then 8 else 0 by unfold wrongPas;rw[if_neg hnm,hcnd,<- HRl.out]);rw[HP.out] at HD;have HCN:=hid hcnd;clear hnm HP hcnd HWr;have p0:=cell_new wr #[.string nm,.slice A' n' c'] 42 0 _ rfl;have p1:=cell_new wr #[.string nm,.slice A' n' c'] 42 1 _ rfl;have pl:wr.heap.size<(wr.alloc (.cells #[.string nm,.slice A' n' c'] 42)).heap.size:=by simp
     go_upto_region 13 with fail;generalize wr.alloc (.cells #[.string nm,.slice A' n' c'] 42)=w5 at *;go_cut [24,37] from 24 to 53 (fun v24 v37 wx=>v24=.int .i64 k/\v37=.bool (!cnd)/\Ext w5 wx)
     case first=>
      go_region_with (first
       | (go_at_call 52;((refine (Passes_any _).mono ?_);rintro e w8 ⟨A9,c9,rfl,s9,x8⟩;have X8:=hid (show Ext w5 w8 from (by first | exact x8 | exact (Ext.refl _).drew.trans x8));have y0:=X8.out.cell p0;have HC:=hid (ContainsS_any A9 4 c9 passS nm w8 s9);rw[<- HCN.out] at HC;clear s9 x8))
       | (go_at_call 51;((refine (HC.out).mono ?_);rintro e w9 ⟨rfl,rfl⟩)))
      all_goals (go_wp2_with fail;go_meet;exact⟨rfl,rfl,X8.out⟩)
     case rest=>
      obtain⟨rfl,rfl,x6⟩:=hcut;have x7:=hx.trans (ea.trans x6);have u3:=x7.cell k3;have u4:=x7.cell k4;have ub:=(wb.ext x7).2;have un:=wb.lt x7;have y1:=x6.cell p1;cases cnd
      ·have HK2:=hid (show wrongPs 0 ps=(7,k) by rw[HD.out];simp);clear HD;go_wp2;refine bodyPost_ret (v:=.agg #[.int .i64 7,.int .i64 k]) (by simp[results,Tryz.results24,go_sem,u3,u4,un]) rfl ?_;exact⟨by rw[HK2.out],ext_set (ext_set (e1.trans x7) (by omega) _ _) (by omega) _ _⟩
      ·by_cases h0:0<n'
       ·have g0:(0:Int)<(n':Int):=by omega
        have HK2:=hid (show wrongPs 0 ps=(8,k) by rw[HD.out];simp[h0]);clear HD;go_wp2;refine bodyPost_ret (v:=.agg #[.int .i64 8,.int .i64 k]) (by simp[results,Tryz.results24,go_sem,u3,u4,un]) rfl ?_;exact⟨by rw[HK2.out],ext_set (ext_set (e1.trans x7) (by omega) _ _) (by omega) _ _⟩
       ·have g0:¬ (0:Int)<(n':Int):=by omega
        have HK2:=hid (show wrongPs 0 ps=wrongPs (k+1) (ps.drop (k+1)) by rw[HD.out];simp[h0]);clear HD;go_wp2;go_roundw;case rel=>exact⟨k+1,by omega,by go_num,HK2,x7⟩
        case measure=>simp[intOf];omega
   ·go_wp2;refine bodyPost_ret (v:=.agg #[.int .i64 0,.int .i64 0]) (by simp[results,Tryz.results24,go_sem,v3,v4,nb]) rfl ?_;exact⟨by rw[HK.out,drop_end hlen.out hlt];rfl,ext_set (ext_set exw (by omega) _ _) (by omega) _ _⟩
end
theorem play_len {l:List Rule} (hok:∀ r∈l,OkRule r):∀ (n:Nat) (p:Play),p.text.length<=4000->p.text.all right=true->(play l n p).text.length<=4000
 | n,p,h1,h2=>by
  by_cases hlt:p.at_<p.text.length
  ·match n with
   | 0=>rw[play_out hlt];show ([]:List Int).length<=4000;simp
   | n+1=>
    cases hs:playStep l p with
    | none=>rw[play_none hlt hs];show ([]:List Int).length<=4000;simp
    | some q=>
     rw[play_next hlt hs];obtain⟨t,a,s,x⟩:=p;obtain⟨q1,q2,_⟩:=step_keeps hok h1 hlt h2 hs;exact play_len hok n q q1 q2
  ·rw[play_end hlt];exact h1
theorem vmV_len (l:List Rule) (t:List Int):(vmV l t).length<=4000:=by
 unfold vmV;by_cases h:(vmE l t).1≠0
 ·rw[if_pos h];simp
 ·rw[if_neg h];have h0:(vmE l t).1=0:=Decidable.not_not.1 h;unfold vmE at h0;by_cases hc:(checkRun l t).1≠0
  ·rw[if_pos hc] at h0;exact absurd h0 hc
  ·obtain⟨hr,ht⟩:=check_parts (Decidable.not_not.1 hc);obtain⟨_,_,hok⟩:=wrongRules_zero hr;obtain⟨t1,t2⟩:=text_parts ht;exact play_len hok _ _ t1 t2
theorem passF_len (p:Pas) {t:List Int} (h:t.length<=4000):(passF p t).1.length<=4000:=by
 by_cases h1:p.name=upperS
 ·rw[passF_upper h1];simpa using h
 by_cases h2:p.name=lowerS
 ·rw[passF_lower h2];simpa using h
 by_cases h3:p.name=removeS
 ·rw[passF_remove h3];simp
 by_cases h4:p.name=nullS
 ·rw[passF_null h4];exact h
 rw[passF_rules h1 h2 h3 h4];exact vmV_len _ _
theorem allP_len:∀ (ps:List Pas) (k:Nat) {t:List Int},t.length<=4000->(allP k ps t).1.length<=4000
 | [],k,t,h=>h
 | p::ps,k,t,h=>by
  unfold allP;split
  ·simp
  ·exact allP_len ps (k+1) (passF_len p h)
theorem allP_cons {p:Pas} {ps:List Pas} {k:Nat} {t:List Int}:allP k (p::ps) t=if (passF p t).2≠0 then ([],(passF p t).2,k) else allP (k+1) ps (passF p t).1:=rfl
def AllPost (w:World) (T:List Int×Int×Nat) (e:Ending) (w':World):Prop:=
 Ext w w'/\if T.2.1≠0 then e=.returned (.tuple #[.slice none 0 0,.agg #[.int .i64 T.2.1,.int .i64 T.2.2]])
 else ∃ A n c,e=.returned (.tuple #[.slice A n c,.agg #[.int .i64 0,.int .i64 0]])/\Runes w' A n c T.1
section
variable (sb : Nat) (A2 : Option Addr) (n2 c2 : Nat) (ps : List Pas) (X : Option Addr) (m d : Nat) (t : List Int) (w : World)
theorem chainAll_any (hs:w.cell? ⟨sb,2,none⟩=some (.slice A2 n2 c2)) (h2:Pss top w A2 n2 c2 ps) (ht:Runes w X m d t) (hm:m<=4000) (hn:n2<=60) :
  Calls Tryz.prog 26 #[.pointer (some ⟨sb,0,none⟩),.slice X m d] w (AllPost w (allP 0 ps t)):=by
 have e1:=(Ext.refl w).alloc (.cells #[.int .i64 0,.int .i64 0] 34);have k0:(w.alloc (.cells #[.int .i64 0,.int .i64 0] 34)).cell? ⟨w.heap.size,0,none⟩=some (.int .i64 0):=by simp
 have k1:(w.alloc (.cells #[.int .i64 0,.int .i64 0] 34)).cell? ⟨w.heap.size,1,none⟩=some (.int .i64 0):=by simp
 have wb:=Wr.new w #[.int .i64 0,.int .i64 0] 34;have hs1:=e1.cell hs;have hlen:=hid h2.len;have hcap:=h2.cap;have h2h:=hid h2;have HT:=hid (ht.ext e1);have hsb:=World.block_lt_of_cell? w _ hs;clear hs ht h2;go_enter Tryz.func26,Tryz.ntmps26;go_upto_region 1 with fail;generalize w.alloc (.cells #[.int .i64 0,.int .i64 0] 34)=w1 at *;go_wp2;go_loopw [1,14] (fun vl v wr=>∃ (k:Nat) (A:Option Addr) (n c:Nat) (tx:List Int),k<=n2/\v=.int .i64 k/\vl=.slice A n c/\Hid (Runes wr A n c tx)/\n<=4000/\Hid (allP 0 ps t=allP k (ps.drop k) tx)/\Ext w1 wr) (fun _ v _=>n2-(intOf v).toNat);case atStart=>exact⟨0,X,m,d,t,by omega,rfl,rfl,HT,hm,hid rfl,Ext.refl _⟩
 case round=>
  obtain⟨k,A,n,c,tx,hk,rfl,rfl,HTx,hn4,HK,hx⟩:=hrel;have exw:=e1.trans hx;have v0:=hx.cell k0;have v1:=hx.cell k1;have vb:=(wb.ext hx).2;have nb:=wb.lt hx;by_cases hlt:k<n2
  ·obtain⟨p,hpp⟩:=h2h.out.idx hlt;obtain⟨b,off,A',n',c',rfl,⟨hb0,_⟩,hps,hr,c0,c1'⟩:=SlR.pas (h2h.out.ext (keep_pas top) exw) hpp;have hne:b≠wr.heap.size:=by omega
   have HD:=hid (show allP 0 ps t=if (passF p tx).2≠0 then ([],(passF p tx).2,k) else allP (k+1) (ps.drop (k+1)) (passF p tx).1 by rw[HK.out,drop_cons hpp,allP_cons]);have ea:=(Ext.refl wr).alloc (.cells #[.string p.name,.slice A' n' c'] 42);have HP:=hid (pass_any A' n' c' A n c tx _ p ((hr.ext (keep_ruleO top) ea).mono (fun _ _ h=>rRuleO_top h) (fun _ _=>trivial)) (HTx.out.ext ea) hn4);have HPL:=hid (passF_len p (show tx.length<=4000 by rw[HTx.out.len];exact hn4));clear hpp hr;generalize p.name=nm at *;obtain⟨PR,hPR⟩:∃ z,z=passF p tx:=⟨_,rfl⟩
   rw[<- hPR] at HD HP HPL;obtain⟨l',q⟩:=PR;clear hPR;dsimp only at HD HPL;by_cases hq:q=0
   ·subst hq;have HK2:=hid (show allP 0 ps t=allP (k+1) (ps.drop (k+1)) l' by rw[HD.out];simp);clear HD;go_wp2_with (go_at_call 56;refine HP.out.mono ?_;rintro e w6 ⟨⟨A6,n6,c6,rfl,s6⟩,x6⟩;have S6:=hid s6;have L6:=hid s6.len;clear s6);go_roundw;case rel=>exact⟨k+1,A6,n6,c6,l',by omega,by go_num,rfl,S6,by rw[<- L6.out];exact HPL.out,HK2,hx.trans (ea.trans x6)⟩
    case measure=>simp[intOf];omega
   ·have gq:(q != 0)=true:=by simpa using hq
    have HK2:=hid (show allP 0 ps t=([],q,k) by rw[HD.out,if_pos hq]);have HQ:=hid hq;clear HD hq;go_wp2_with (go_at_call 56;refine HP.out.mono ?_;rintro e w6 ⟨⟨A6,n6,c6,rfl,s6⟩,x6⟩;clear s6;have x7:=hx.trans (ea.trans x6);have u0:=x7.cell k0;have u1:=x7.cell k1;have ub:=(wb.ext x7).2;have un:=wb.lt x7);refine bodyPost_ret (v:=.tuple #[.slice none 0 0,.agg #[.int .i64 q,.int .i64 k]]) (by simp[results,Tryz.results26,go_sem,u0,u1,un]) rfl ?_;refine⟨ext_set (ext_set (e1.trans x7) (Nat.le_refl _) _ _) (Nat.le_refl _) _ _,?_⟩;rw[HK2.out,if_pos HQ.out]
  ·have HE:=hid (show allP 0 ps t=(tx,0,0) by rw[HK.out,drop_end hlen.out hlt];rfl);go_wp2;refine bodyPost_ret (v:=.tuple #[.slice A n c,.agg #[.int .i64 0,.int .i64 0]]) (by simp[results,Tryz.results26,go_sem,v0,v1,nb]) rfl ?_;refine⟨ext_set (ext_set exw (Nat.le_refl _) _ _) (Nat.le_refl _) _ _,?_⟩;rw[HE.out,if_neg (by simp),setCell_self v0,setCell_self v1];exact⟨A,n,c,rfl,HTx.out⟩
end
end Go.Proofs.YthomjcjnalfipaaGreatDoor
