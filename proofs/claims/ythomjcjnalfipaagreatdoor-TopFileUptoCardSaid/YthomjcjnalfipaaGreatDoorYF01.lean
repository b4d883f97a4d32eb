/- A part of the proof of rowTopFile.proved. -/
import Derived.Test.YthomjcjnalfipaaGreatDoorYB22
set_option linter.all false
set_option maxRecDepth 100000
set_option maxHeartbeats 2000000
open Go.Lib (hid)
namespace Go.Proofs.YthomjcjnalfipaaGreatDoor
open Go.RowKit
abbrev Texts (w:World) (A:Option Addr) (n c:Nat) (l:List (List Int)):Prop:=SlR (rSl rRune 1 top) 1 top w A n c l
theorem Wr.set {w:World} {b:Nat} (h:Wr w b) (a:Addr) (v:Value):Wr (w.setCell a v) b:=⟨by have:=h.1;simpa [World.setCell] using this,fun i=>by rw[World.frozen?_setCell];exact h.2 i⟩
theorem Len_any (A:Option Addr) (n c:Nat) (w:World):Calls Tryz.prog 229 #[.slice A n c] w fun e w'=>e=.returned (.int .i64 n)/\w=w':=by
 go_enter Tryz.func229,Tryz.ntmps229;go_wp2;go_ret;exact⟨rfl,rfl⟩
theorem Rune_any (A:Option Addr) (n c:Nat) (l:List Int) (k:Nat) (x:Int) (w:World) (h:Runes w A n c l) (hx:l[k]? =some x) :
  Calls Tryz.prog 230 #[.slice A n c,.int .i64 k] w fun e w'=>e=.returned (.int .i32 x)/\w=w':=by
 have hlt:=lt_of_get hx;rw[h.len] at hlt;obtain⟨b,off,rfl,_,hc,_⟩:=h.rune hx;have hi:(k:Int)<(n:Int):=by omega
 clear hx h;go_enter Tryz.func230,Tryz.ntmps230;go_wp2;go_ret;exact⟨rfl,rfl⟩
theorem method_len (A:Option Addr) (n c:Nat) (w:World):(method 393 86 (.slice A n c) "Len").run Tryz.prog w=.ok (229,.slice A n c) w:=by kernel_rfl
theorem method_rune (A:Option Addr) (n c:Nat) (w:World):(method 393 86 (.slice A n c) "Rune").run Tryz.prog w=.ok (230,.slice A n c) w:=by kernel_rfl
theorem all_any (A:Option Addr) (n c:Nat) (t:List Int) (at_:Int) (B:Option Addr) (m d:Nat) (l:List (List Sp)) (w:World) (h:Runes w A n c t) (hl:Sets w B m d l) (hok:okSets l)
  (hmm:m<=60000) (hnn:n<=60000) :
  Calls Tryz.prog 98 #[.iface 86 (.slice A n c),.int .i64 at_,.slice B m d] w fun e w'=>e=.returned (.bool (allAt t at_ l))/\Ext w w':=by
 have hlen:=hid h.len;have hlen2:=hid hl.len;have em:=fun w=>method_len A n c w;have er:=fun w=>method_rune A n c w;by_cases h0:at_<0
 ·have H:=hid (allAt_neg (t:=t) (l:=l) h0);go_enter Tryz.func98,Tryz.ntmps98;go_wp2;go_ret;rw[H.out];exact⟨rfl,Ext.refl _⟩
 have h0':decide (at_<0)=false:=by simpa using h0
 by_cases h1:(n:Int)-(m:Int)<at_
 ·have H:=hid (allAt_far (t:=t) (l:=l) (a:=at_) (by rw[hlen.out,hlen2.out];exact h1));have h1':decide ((n:Int)-(m:Int)<at_)=true:=by simpa using h1
  go_enter Tryz.func98,Tryz.ntmps98;go_wp2_with (go_at_call 229;refine (Len_any _ _ _ _).mono ?_;rintro e w' ⟨rfl,rfl⟩);go_ret;rw[H.out];exact⟨rfl,Ext.refl _⟩
 have h1':decide ((n:Int)-(m:Int)<at_)=false:=by simpa using h1
 obtain⟨a,rfl⟩:=Int.eq_ofNat_of_zero_le (by omega:0<=at_);have HA:=hid (allAt_in (t:=t) (l:=l) (a:=a) (by omega) (by rw[hlen.out,hlen2.out];omega));have ham:a+m<=n:=by omega
 clear h1;go_enter Tryz.func98,Tryz.ntmps98;go_wp2_with (go_at_call 229;refine (Len_any _ _ _ _).mono ?_;rintro e w' ⟨rfl,rfl⟩);go_loopw [22] (fun i wr=>∃ k:Nat,k<=m/\i=.int .i64 k/\zipHas l (t.drop a)=zipHas (l.drop k) (t.drop (a+k))/\Ext w wr) (fun i _=>m-(intOf i).toNat);case atStart=>exact⟨0,by omega,rfl,rfl,Ext.refl _⟩
 case round=>
  obtain⟨k,hk,rfl,hkk,hx⟩:=hrel;have HK:=hid hkk;clear hkk;by_cases hlt:k<m
  ·obtain⟨S,hSS⟩:=hl.idx hlt;obtain⟨b,off,A',n',c',rfl,⟨_,hne⟩,hc,hsl⟩:=(hl.ext hx).sl hSS;obtain⟨x,hxx⟩:=h.idx (k:=a+k) (by omega);have HR:=hid (Rune_any A n c t (a+k) x wr (h.ext hx) hxx);have HH:=hid (setsHas_any A' n' c' S x wr hsl (hok S (List.mem_of_getElem? hSS)));have HZ:=hid (show zipHas (l.drop k) (t.drop (a+k))=(has S x&&zipHas (l.drop (k+1)) (t.drop (a+k+1))) by rw[drop_cons hSS,drop_cons hxx];rfl);clear hSS hxx;have hak:(a:Int)+(k:Int)=((a+k:Nat):Int):=by omega
   have HAK:=hid hak;clear hak;cases hh:has S x
   ·have H2:=hid hh;clear hh;go_wp2_with (first | (go_at_call 230;rw[HAK.out];refine HR.out.mono ?_;rintro e w' ⟨rfl,rfl⟩) | (go_at_call 14;refine HH.out.mono ?_;rintro e w1 ⟨rfl,hx1⟩;rw[H2.out]));go_ret;rw[HA.out,Int.toNat_natCast,HK.out,HZ.out,H2.out,Bool.false_and];exact⟨rfl,hx.trans hx1⟩
   ·have H2:=hid hh;clear hh;go_wp2_with (first | (go_at_call 230;rw[HAK.out];refine HR.out.mono ?_;rintro e w' ⟨rfl,rfl⟩) | (go_at_call 14;refine HH.out.mono ?_;rintro e w1 ⟨rfl,hx1⟩;rw[H2.out]));go_roundw;case rel=>exact⟨k+1,by omega,by go_num,by rw[HK.out,HZ.out,H2.out,Bool.true_and];rfl,hx.trans hx1⟩
    case measure=>simp[intOf];omega
  ·go_wp2;go_ret;rw[HA.out,Int.toNat_natCast,HK.out,drop_end hlen2.out hlt];exact⟨rfl,hx⟩
end Go.Proofs.YthomjcjnalfipaaGreatDoor
namespace Go.Proofs.YthomjcjnalfipaaGreatDoor
open Go.RowKit
theorem quiet_left {P:Program} {f:FuncId} {args:Array Value} {w:World} {n:Nat} {v:Value}
  (h:Calls P f args (w.drewN n) fun e w'=>e=.returned v/\w.drewN n=w'):Calls P f args (w.drewN n) fun e w''=>e=.returned v/\∃ m,w''=w.drewN m:=
 h.mono fun _ _ ⟨he,hm⟩=>⟨he,n,hm.symm⟩
section
variable {w w' : World} {b off : Nat} {s f : Bool} {A1 : Option Addr} {n1 c1 : Nat} {A2 : Option Addr} {n2 c2 : Nat} {A3 : Option Addr} {n3 c3 : Nat} {A4 : Option Addr} {n4 c4 : Nat} {q : Int} {r : Rule}
theorem RuleAt.new (w:World) (t:TypeId):RuleAt (w.alloc (.cells #[.bool s,.bool f,.slice A1 n1 c1,.slice A2 n2 c2,.slice A3 n3 c3,.slice A4 n4 c4,.int .i64 q] t)) w.heap.size 0 s f A1 n1 c1 A2 n2 c2 A3 n3 c3 A4 n4 c4 q:=
 ⟨cell_new _ _ _ _ _ rfl,cell_new _ _ _ _ _ rfl,cell_new _ _ _ _ _ rfl,cell_new _ _ _ _ _ rfl,cell_new _ _ _ _ _ rfl,cell_new _ _ _ _ _ rfl,cell_new _ _ _ _ _ rfl⟩
end
section
variable (s f : Bool) (A1 : Option Addr) (n1 c1 : Nat) (A2 : Option Addr) (n2 c2 : Nat) (A3 : Option Addr) (n3 c3 : Nat) (A4 : Option Addr) (n4 c4 : Nat) (q : Int) (r : Rule) (w : World)
theorem Here_any (A:Option Addr) (n c:Nat) (t:List Int) (b off a:Nat) (h:Runes w A n c t) (hn:n<=4000) (ha:a<=n)
  (hv:RuleV w s f A1 n1 c1 A2 n2 c2 A3 n3 c3 A4 n4 c4 q r) (hr:RuleAt w b off s f A1 n1 c1 A2 n2 c2 A3 n3 c3 A4 n4 c4 q) (hok:OkRule r) :
  Calls Tryz.prog 66 #[.pointer (some ⟨b,off,none⟩),.iface 86 (.slice A n c),.int .i64 a] w fun e w'=>e=.returned (.bool (here r t a))/\Ext w w':=by
 have hl1:=hok.lb;have hl2:=hok.ls;have hl3:=hok.la;rw[hv.before.len] at hl1;rw[hv.source.len] at hl2;rw[hv.after.len] at hl3
 have HH:Hid (here r t a=(allAt t a r.source&&allAt t ((a:Int)-n1) r.before&&allAt t ((a:Int)+n2) r.after&& !(s&&decide ((a:Int)≠n1))&& !(f&&decide ((a:Int)+n2+n3≠n)))):=by
  show _=_;unfold here;rw[hv.before.len,hv.source.len,hv.after.len,hv.start,hv.fin,h.len]
 have C1:=hid (fun W (e:Ext w W)=>all_any A n c t (a:Int) A2 n2 c2 r.source W (h.ext e) (hv.source.ext e) hok.s (by omega) (by omega));have C2:=hid (fun W (e:Ext w W)=>all_any A n c t ((a:Int)-n1) A1 n1 c1 r.before W (h.ext e) (hv.before.ext e) hok.b (by omega) (by omega));have C3:=hid (fun W (e:Ext w W)=>all_any A n c t ((a:Int)+n2) A3 n3 c3 r.after W (h.ext e) (hv.after.ext e) hok.a (by omega) (by omega));clear hv h hok;generalize allAt t a r.source=x1 at *;generalize allAt t ((a:Int)-n1) r.before=x2 at *;generalize allAt t ((a:Int)+n2) r.after=x3 at *;have em:=fun w=>method_len A n c w;obtain⟨r0,r1,r2,r3,r4,_,_⟩:=hr;go_enter Tryz.func66,Tryz.ntmps66;go_wp2_with fail;refine (C1.out _ (Ext.refl _)).mono ?_;rintro e w1 ⟨rfl,hx1⟩;have r01:=hx1.cell r0;have r11:=hx1.cell r1;have r21:=hx1.cell r2;have r31:=hx1.cell r3;have r41:=hx1.cell r4;cases x1
 ·go_wp2;go_ret;rw[HH.out];exact⟨by simp,hx1⟩
 go_wp2_with fail;go_still_tail 12,(by kernel_rfl)
 change wpList _ _ _ _ _ w1.drew;go_wp2_with fail;have hw:IntKind.i64.wrap ((a:Int)-n1)=(a:Int)-n1:=IntWalk.i64_in _ (by omega)
 try rw[hw]
 clear hw;refine (C2.out _ hx1.drew).mono ?_;rintro e w2 ⟨rfl,hx2⟩;have hx2':=hx1.drew.trans hx2;have r02:=hx2'.cell r0;have r12:=hx2'.cell r1;have r22:=hx2'.cell r2;have r32:=hx2'.cell r3;have r42:=hx2'.cell r4;cases x2
 ·go_wp2;go_ret;rw[HH.out];exact⟨by simp,hx2'⟩
 go_wp2_with fail;refine (C3.out _ hx2').mono ?_;rintro e w3 ⟨rfl,hx3⟩;have hx3':=hx2'.trans hx3;have r03:=hx3'.cell r0;have r13:=hx3'.cell r1;have r23:=hx3'.cell r2;have r33:=hx3'.cell r3;have r43:=hx3'.cell r4;cases x3
 ·go_wp2;go_ret;rw[HH.out];exact⟨by simp,hx3'⟩
 have HH2:Hid (here r t a=(!(s&&decide ((a:Int)≠n1))&& !(f&&decide ((a:Int)+n2+n3≠n)))):=by
  show _=_;rw[HH.out];simp
 clear HH hx1 hx2 hx3 C1 C2 C3;by_cases t1:s=true/\(a:Int)≠n1
 ·obtain⟨rfl,t1⟩:=t1;have t1':((a:Int) != (n1:Int))=true:=by simpa using t1
  go_wp2;go_ret;rw[HH2.out];exact⟨by simp[t1],hx3'⟩
 have HH3:Hid (here r t a= !(f&&decide ((a:Int)+n2+n3≠n))):=by
  show _=_;rw[HH2.out]
  have:(s&&decide ((a:Int)≠n1))=false:=by
   rw[Bool.eq_false_iff];intro hh;simp only[Bool.and_eq_true,decide_eq_true_eq] at hh;exact t1 hh
  rw[this];simp
 clear HH2
 have t1':s=true->((a:Int) != (n1:Int))=false:=fun hs=>by
  rw[bne_eq_false_iff_eq];exact Decidable.byContradiction fun hh=>t1 ⟨hs,hh⟩
 clear t1;cases f
 ·cases s
  ·go_wp2;go_quiet (fail);go_wp2;go_ret;rw[HH3.out];exact⟨by simp,hx3'.drewN _⟩
  ·have t1'':=t1' rfl;clear t1';go_wp2;go_quiet (fail);go_wp2;go_ret;rw[HH3.out];exact⟨by simp,hx3'.drewN _⟩
 ·have hw1:IntKind.i64.wrap ((a:Int)+n2+n3)=(a:Int)+n2+n3:=IntWalk.i64_in _ (by omega);by_cases t2:(a:Int)+n2+n3=n
  ·have t2':((a:Int)+n2+n3 != (n:Int))=false:=by rw[bne_eq_false_iff_eq];exact t2
   have HT:=hid t2;clear t2;cases s
   ·go_wp2;go_quiet ((go_at_call 229;exact quiet_left (Len_any _ _ _ _)));clear hw1;go_wp2;go_ret;rw[HH3.out];exact⟨by simp[HT.out],hx3'.drewN _⟩
   ·have t1'':=t1' rfl;clear t1';go_wp2;go_quiet ((go_at_call 229;exact quiet_left (Len_any _ _ _ _)));clear hw1;go_wp2;go_ret;rw[HH3.out];exact⟨by simp[HT.out],hx3'.drewN _⟩
  ·have t2':((a:Int)+n2+n3 != (n:Int))=true:=by rw[bne_iff_ne];exact t2
   have HT:=hid t2;clear t2;cases s
   ·go_wp2;go_quiet ((go_at_call 229;exact quiet_left (Len_any _ _ _ _)));clear hw1;go_wp2;go_ret;rw[HH3.out];exact⟨by simp[HT.out],hx3'.drewN _⟩
   ·have t1'':=t1' rfl;clear t1';go_wp2;go_quiet ((go_at_call 229;exact quiet_left (Len_any _ _ _ _)));clear hw1;go_wp2;go_ret;rw[HH3.out];exact⟨by simp[HT.out],hx3'.drewN _⟩
end
end Go.Proofs.YthomjcjnalfipaaGreatDoor
namespace Go.Proofs.YthomjcjnalfipaaGreatDoor
def runAll (l:List Rule) (t:List Int):Out:=if (checkRun l t).1≠0 then ⟨[],0,0,(checkRun l t).1⟩ else runText l t
def runF (l:List Rule) (t:List Int):Int×Nat:=if (checkRun l t).1≠0 then checkRun l t else ((runText l t).err,0)
theorem runF_bad {l:List Rule} {t:List Int} (h:(checkRun l t).1≠0):runF l t=checkRun l t:=by unfold runF;rw[if_pos h]
theorem runF_ok {l:List Rule} {t:List Int} (h:(checkRun l t).1=0):runF l t=((runText l t).err,0):=by unfold runF;rw[if_neg (by simp[h])]
theorem runAll_bad {l:List Rule} {t:List Int} (h:(checkRun l t).1≠0):runAll l t=⟨[],0,0,(checkRun l t).1⟩:=by unfold runAll;rw[if_pos h]
theorem runAll_ok {l:List Rule} {t:List Int} (h:(checkRun l t).1=0):runAll l t=runText l t:=by unfold runAll;rw[if_neg (by simp[h])]
end Go.Proofs.YthomjcjnalfipaaGreatDoor
namespace Go.Proofs.YthomjcjnalfipaaGreatDoor
open Go.RowKit
section
variable {α : Type} {R : World -> List Value -> α -> Prop}
theorem Grow_rune (n:Nat) (w:World) (hn:n<=60000) :
  Calls Tryz.prog 67 #[.slice none 0 0,.int .i64 n] w fun e w'=>∃ v,e=.returned v/\OwnR R 21 1 w.heap.size w' v []/\Ext w w':=by
 by_cases hz:n=0
 ·subst hz;go_enter Tryz.func67,Tryz.ntmps67;go_wp2;go_ret;exact⟨_,rfl,OwnR.nil _ _ _ _ _,Ext.refl _⟩
 ·obtain⟨cap,cur,hrun,h1,h2,h3⟩:=run_grow_nil T_rune (tn:=3) Tryz.underlying3 31 n w (by omega) hn (by omega);have hs1:=fun W=>run_cut_h T_rune (some ⟨w.heap.size,0,none⟩) n cap 0 0 rfl (by omega) W;have hs0:=fun W=>run_cut_h T_rune none 0 0 0 0 rfl (by omega) W;have o1:=OwnR.made (R:=R) (base:=w.heap.size) (w:=w.drew) (e:=21) (sz:=1) (Nat.le_refl _) h2 h3;have hr:=hid hrun;clear hrun;go_enter Tryz.func67,Tryz.ntmps67;go_wp2_with (at_builtin;refine Lib.wpList_append_run _ rfl _ _ _ _ rfl _ _ rfl rfl _ _ hr.out ?_);go_ret;exact⟨_,rfl,o1,((Ext.refl w).drew).alloc _⟩
theorem Concat_rune (one:One R) {okk:Nat->Prop} (hk:Keep R okk) {ok1 ok2:Nat->Prop} (A:Option Addr) (n c:Nat) (l:List (List α)) (w:World) (h:SlR (rSl R 1 ok1) 1 ok2 w A n c l)
  (hsum:l.flatten.length<=60000) (hd:∀ g,w.heap.size<=g->¬ okk g) :
  Calls Tryz.prog 35 #[.slice A n c] w fun e w'=>∃ v,e=.returned v/\OwnR R 21 1 w.heap.size w' v l.flatten/\Ext w w':=by
 have hcap:=h.cap;have hmax:=h.max;unfold maxLen at hmax;have hlen:=hid h.len;have HS:=hid hsum;clear hsum;go_enter Tryz.func35,Tryz.ntmps35;go_wp2;go_loop [3,11] (fun u i=>∃ k:Nat,k<=n/\i=.int .i64 k/\u=.int .i64 ((l.take k).flatten.length)) (fun _ i=>n-(intOf i).toNat);case atStart=>exact⟨0,by omega,rfl,by simp⟩
 case round=>
  obtain⟨k,hk',rfl,rfl⟩:=hrel;by_cases hlt:k<n
  ·obtain⟨x,hxx⟩:=h.idx hlt;obtain⟨b,off,A',n',c',rfl,_,hc,hsl⟩:=h.sl hxx;have hl2:(l.take (k+1)).flatten.length=(l.take k).flatten.length+n':=by rw[take_snoc hxx];simp[hsl.len]
   have hle:(l.take (k+1)).flatten.length<=60000:=Nat.le_trans (take_flatten_le _) HS.out;have HL:=hid hl2;have hle':(l.take k).flatten.length+n'<=60000:=by omega
   clear hl2 hle hxx;generalize (l.take k).flatten.length=a at *;have hn0:((a:Int)+(n':Int)<0)=False:=by simp;omega
   go_wp2;go_round;case rel=>exact⟨k+1,by omega,by go_num,by rw[HL.out];go_num⟩
   case measure=>simp[intOf];omega
  ·have e:l.take k=l:=take_all hlen.out (by omega);rw[e];have HS':=HS.out;have HG:=hid (Grow_rune (R:=R) l.flatten.length w HS');clear HS' e;generalize hz:l.flatten.length=z at *;have HZ:=hid hz;clear hz;go_wp2_with (go_at_call 67;refine HG.out.mono ?_;rintro e w1 ⟨v1,rfl,o1,e1⟩);go_loopw [6,27] (fun u i wr=>∃ k:Nat,k<=n/\i=.int .i64 k/\OwnR R 21 1 w.heap.size wr u (l.take k).flatten/\Ext w wr) (fun _ i _=>n-(intOf i).toNat);case atStart=>exact⟨0,by omega,rfl,by simpa using o1,e1⟩
   case round=>
    obtain⟨k,hk',rfl,ow,ex⟩:=hrel;by_cases hlt:k<n
    ·obtain⟨x,hxx⟩:=h.idx hlt;obtain⟨b,off,A',n',c',rfl,_,hc,hsl⟩:=(h.extX (keepX_sl hk.x) ex).sl hxx;have hl2:(l.take (k+1)).flatten=(l.take k).flatten++x:=by rw[take_snoc hxx];simp
     have hle:(l.take (k+1)).flatten.length<=60000:=Nat.le_trans (take_flatten_le _) (by rw[HZ.out];exact HS.out);rw[hl2,List.length_append,hsl.len] at hle;have HL:=hid hl2;clear hl2 hxx
     go_wp2_with (at_builtin
                  refine wpList_appS T_rune (by omega) rfl (.tmp 31) (.tmp 32) rfl rfl ow rfl hsl (fun _ _ h=>h) one hk (fun g hg=>hd g (ow.lt g hg).1) hle ex.size ?_
                  intro v2 w2 o2 g2 hat2)
     go_roundw;case rel=>exact⟨k+1,by omega,by go_num,by rw[HL.out];exact o2,ex.app g2 ow⟩
     case measure=>simp[intOf];omega
    ·go_wp2;go_ret;rw[take_all hlen.out (by omega)] at ow;exact⟨_,rfl,ow,ex⟩
end
section
variable (s f : Bool) (A1 : Option Addr) (n1 c1 : Nat) (A2 : Option Addr) (n2 c2 : Nat) (A3 : Option Addr) (n3 c3 : Nat) (A4 : Option Addr) (n4 c4 : Nat) (q : Int) (r : Rule) (w : World)
theorem pieces_new {w':World} (X Y Z:Option Addr) (nx cx ny cy nz cz:Nat) (x y z:List Int) (t:TypeId) (hx:Runes w' X nx cx x) (hy:Runes w' Y ny cy y) (hz:Runes w' Z nz cz z) :
  Texts (w'.alloc (.cells #[.slice X nx cx,.slice Y ny cy,.slice Z nz cz] t)) (some ⟨w'.heap.size,0,none⟩) 3 3 [x,y,z]:=by
 have e:=(Ext.refl w').alloc (.cells #[.slice X nx cx,.slice Y ny cy,.slice Z nz cz] t);refine SlR.fresh rfl (by unfold maxLen;omega) fun k u huu=>?_
 match k,huu with
 | 0,huu=>cases huu;exact⟨[.slice X nx cx],rfl,⟨X,nx,cx,rfl,hx.ext e⟩,fun j v hv=>by match j,hv with | 0,hv=>simpa using hv⟩
 | 1,huu=>cases huu;exact⟨[.slice Y ny cy],rfl,⟨Y,ny,cy,rfl,hy.ext e⟩,fun j v hv=>by match j,hv with | 0,hv=>simpa using hv⟩
 | 2,huu=>cases huu;exact⟨[.slice Z nz cz],rfl,⟨Z,nz,cz,rfl,hz.ext e⟩,fun j v hv=>by match j,hv with | 0,hv=>simpa using hv⟩
end
theorem SlR.far {α :Type} {R:World->List Value-> α ->Prop} {sz:Nat} {ok:Nat->Prop} {w:World} {A:Option Addr} {n c:Nat} {l:List α} {H o:Nat} {u:Value} (h:SlR R sz ok w A n c l) (hk:Keep R ok) (hn:∀ b,ok b->b≠H) :
  SlR R sz ok (w.setCell ⟨H,o,none⟩ u) A n c l:=h.keep hk ((agree_set _ _ _ _).mono hn)
def cellN (o:Option Value):Nat:=match o with | some (.int _ q)=>q.toNat | _=>0
theorem cellN_nat {o:Option Value} {n:Nat} (h:o=some (.int .i64 n)):cellN o=n:=by rw[h];simp[cellN]
structure PlayAt (K B:Nat) (w:World) (A:Option Addr) (m d:Nat) (t:List Int) (s p:Nat):Prop where
 text:SlR rRune 1 (fun b=>b≠B/\K<=b) w A m d t
 c0:w.cell? ⟨B,0,none⟩=some (.slice A m d)
 c1:w.cell? ⟨B,1,none⟩=some (.int .i64 s)
 c2:w.cell? ⟨B,2,none⟩=some (.int .i64 p)
section
variable {K B : Nat} {w w' : World} {A : Option Addr} {m d : Nat} {t : List Int} {s p : Nat}
theorem PlayAt.ext (h:PlayAt K B w A m d t s p) (e:Ext w w'):PlayAt K B w' A m d t s p:=⟨h.text.ext (keep_rune _) e,e.cell h.c0,e.cell h.c1,e.cell h.c2⟩
theorem PlayAt.runes (h:PlayAt K B w A m d t s p):Runes w A m d t:=h.text.mono (fun _ _ h=>h) (fun _ _=>trivial)
theorem PlayAt.step (h:PlayAt K B w A m d t s p) {x:Int} (hx:x=(s+1:Nat)):PlayAt K B (w.setCell ⟨B,1,none⟩ (.int .i64 x)) A m d t (s+1) p:=
 ⟨h.text.keep (keep_rune _) ((agree_set _ _ _ _).mono fun _ h=>h.1),set_other h.c0 (by omega),hx▸set_same h.c1,set_other h.c2 (by omega)⟩
theorem PlayAt.puts (h:PlayAt K B w A m d t s p) {x:Int} (hx:x=(p+1:Nat)):PlayAt K B (w.setCell ⟨B,2,none⟩ (.int .i64 x)) A m d t s (p+1):=
 ⟨h.text.keep (keep_rune _) ((agree_set _ _ _ _).mono fun _ h=>h.1),set_other h.c0 (by omega),set_other h.c1 (by omega),hx▸set_same h.c2⟩
theorem PlayAt.turn (h:PlayAt K B w A m d t s p) {A':Option Addr} {m' d':Nat} {t':List Int} (hs:SlR rRune 1 (fun b=>b≠B/\K<=b) w A' m' d' t'):PlayAt K B (w.setCell ⟨B,0,none⟩ (.slice A' m' d')) A' m' d' t' s p:=
 ⟨hs.keep (keep_rune _) ((agree_set _ _ _ _).mono fun _ h=>h.1),set_same h.c0,set_other h.c1 (by omega),set_other h.c2 (by omega)⟩
end
def RunR (l:List Rule) (t:List Int) (w':World) (e:Ending):Prop:=
 ∃ A n c,e=.returned (.tuple #[.agg #[.slice A n c,.int .i64 (runAll l t).steps,.int .i64 (runAll l t).put],.agg #[.int .i64 (runF l t).1,.int .i64 (runF l t).2]])/\Runes w' A n c (runAll l t).text
theorem RunR.bad {l:List Rule} {t:List Int} {w':World} {a b:Int} {k:Nat} (ho:runAll l t=⟨[],0,0,a⟩) (hf:runF l t=(a,k)) (hb:b=k) :
  RunR l t w' (.returned (.tuple #[.agg #[.slice none 0 0,.int .i64 0,.int .i64 0],.agg #[.int .i64 a,.int .i64 b]])):=
 ⟨none,0,0,by rw[ho,hf,hb];rfl,by rw[ho];exact SlR.nil _ _ _ _ _ _ (by unfold maxLen;omega)⟩
theorem RunR.fine {l:List Rule} {t:List Int} {w':World} {A:Option Addr} {n c:Nat} {u:List Int} {s p:Nat} (ho:runAll l t=⟨u,s,p,0⟩) (hf:runF l t=(0,0)) (hu:Runes w' A n c u) :
  RunR l t w' (.returned (.tuple #[.agg #[.slice A n c,.int .i64 s,.int .i64 p],.agg #[.int .i64 0,.int .i64 0]])):=
 ⟨A,n,c,by rw[ho,hf];rfl,by rw[ho];exact hu⟩
def PredRule (g:FuncId) (caps:Array Value) (p:Rule->Bool) (l:List Rule) (w:World):Prop:=
 ∀ W s f A1 n1 c1 A2 n2 c2 A3 n3 c3 A4 n4 c4 q r,Ext w W->RuleV W s f A1 n1 c1 A2 n2 c2 A3 n3 c3 A4 n4 c4 q r->r∈l ->
  Calls Tryz.prog g (#[.agg #[.bool s,.bool f,.slice A1 n1 c1,.slice A2 n2 c2,.slice A3 n3 c3,.slice A4 n4 c4,.int .i64 q]]++caps) W fun e w'=>e=.returned (.bool (p r))/\Ext W w'
theorem IndexRule_any (A:Option Addr) (n c:Nat) (l:List Rule) (w:World) (g:FuncId) (caps:Array Value) (p:Rule->Bool)
  (eg:∀ args w,(callFunc g args).run Tryz.prog w=.ok (.enter g args) w) (hp:PredRule g caps p l w) (h:Rules w A n c l) :
  Calls Tryz.prog 64 #[.slice A n c,.func (.func g) #[] caps] w fun e w'=>e=.returned (.int .i64 (idxFrom p 0 l))/\Ext w w':=by
 have hm:=h.max;unfold maxLen at hm;have hcap:=h.cap;have hlen:=hid h.len;have HP:=hid hp;clear hp;go_enter Tryz.func64,Tryz.ntmps64;go_wp2;go_loopw [8] (fun i wr=>∃ k:Nat,k<=n/\i=.int .i64 k/\idxFrom p 0 l=idxFrom p k (l.drop k)/\Ext w wr) (fun i _=>n-(intOf i).toNat);case atStart=>exact⟨0,by omega,rfl,rfl,Ext.refl _⟩
 case round=>
  obtain⟨k,hk,rfl,hkk,hx⟩:=hrel;have HK:=hid hkk;clear hkk;by_cases hlt:k<n
  ·obtain⟨r,hrr⟩:=h.idx hlt;obtain⟨b,off,s,f,A1,n1,c1,A2,n2,c2,A3,n3,c3,A4,n4,c4,q,rfl,⟨_,hne⟩,hv,c0,c1',c2',c3',c4',c5',c6'⟩:=(h.ext hx).rule hrr;have HC:=hid (HP.out wr s f A1 n1 c1 A2 n2 c2 A3 n3 c3 A4 n4 c4 q r hx hv (List.mem_of_getElem? hrr));have HD:=hid (drop_cons hrr);clear hrr;cases hr:p r
   ·have HR:=hid hr;clear hr;go_wp2_with fail;refine HC.out.mono ?_;rintro e w1 ⟨rfl,hx1⟩;rw[HR.out];go_wp2;go_roundw;case rel=>exact⟨k+1,by omega,by go_num,by rw[HK.out,HD.out,idxFrom_no HR.out],hx.trans hx1⟩
    case measure=>simp[intOf];omega
   ·have HR:=hid hr;clear hr;go_wp2_with fail;refine HC.out.mono ?_;rintro e w1 ⟨rfl,hx1⟩;rw[HR.out];go_wp2;go_ret;rw[HK.out,HD.out,idxFrom_yes HR.out];exact⟨rfl,hx.trans hx1⟩
  ·go_wp2;go_ret;rw[HK.out,drop_end hlen.out hlt];exact⟨rfl,hx⟩
theorem firstAt_any (B1 B2:Nat) (s f:Bool) (A1:Option Addr) (n1 c1:Nat) (A2:Option Addr) (n2 c2:Nat) (A3:Option Addr) (n3 c3:Nat) (A4:Option Addr) (n4 c4:Nat) (q:Int) (r:Rule) (w:World)
  (A:Option Addr) (n c:Nat) (t:List Int) (a:Nat) (h:Runes w A n c t) (hn:n<=4000) (ha:a<=n)
  (hv:RuleV w s f A1 n1 c1 A2 n2 c2 A3 n3 c3 A4 n4 c4 q r) (hok:OkRule r)
  (h1:w.cell? ⟨B1,0,none⟩=some (.iface 86 (.slice A n c))) (h2:w.cell? ⟨B2,0,none⟩=some (.int .i64 a)) :
  Calls Tryz.prog 65 #[.agg #[.bool s,.bool f,.slice A1 n1 c1,.slice A2 n2 c2,.slice A3 n3 c3,.slice A4 n4 c4,.int .i64 q],.pointer (some ⟨B1,0,none⟩),.pointer (some ⟨B2,0,none⟩)] w
   fun e w'=>e=.returned (.bool (here r t a))/\Ext w w':=by
 have e1:=(Ext.refl w).alloc (.cells #[.bool s,.bool f,.slice A1 n1 c1,.slice A2 n2 c2,.slice A3 n3 c3,.slice A4 n4 c4,.int .i64 q] 61);have r1:=RuleAt.new (s:=s) (f:=f) (A1:=A1) (n1:=n1) (c1:=c1) (A2:=A2) (n2:=n2) (c2:=c2) (A3:=A3) (n3:=n3) (c3:=c3) (A4:=A4) (n4:=n4) (c4:=c4) (q:=q) w 61;have k1:=e1.cell h1;have k2:=e1.cell h2;have HC:=hid (fun W (e:Ext w W) r1=>Here_any s f A1 n1 c1 A2 n2 c2 A3 n3 c3 A4 n4 c4 q r W A n c t w.heap.size 0 a (h.ext e) hn ha (hv.ext (e.agree top)) r1 hok);clear h hv hok h1 h2;go_enter Tryz.func65,Tryz.ntmps65;go_wp2_with (go_at_call 66;refine (HC.out _ e1 r1).mono ?_;rintro e w2 ⟨rfl,ex2⟩);go_ret;exact⟨rfl,e1.trans ex2⟩
theorem First_any (A:Option Addr) (n c:Nat) (l:List Rule) (B:Option Addr) (m d:Nat) (t:List Int) (a:Nat) (w:World) (h:Rules w A n c l) (ht:Runes w B m d t) (hm:m<=4000) (ha:a<=m) (hok:∀ r∈l,OkRule r) :
  Calls Tryz.prog 34 #[.slice A n c,.iface 86 (.slice B m d),.int .i64 a] w fun e w'=>e=.returned (.int .i64 (first l t a))/\Ext w w':=by
 have hmf:∀ (fn:Fn) (first cap:Array Value) (w:World),(Instr.makeFunc fn first cap).run Tryz.prog w=.ok (.func fn first cap) w:=fun _ _ _ _=>rfl;have eg:∀ args w,(callFunc 65 args).run Tryz.prog w=.ok (.enter 65 args) w:=enters Tryz.func65 (by kernel_rfl) rfl;have ex:Ext w ((w.alloc (.cells #[.iface 86 (.slice B m d)] 131)).alloc (.cells #[.int .i64 a] 3)):=((Ext.refl _).alloc _).alloc _
 have hp:PredRule 65 #[.pointer (some ⟨w.heap.size,0,none⟩),.pointer (some ⟨w.heap.size+1,0,none⟩)] (fun r=>here r t a) l ((w.alloc (.cells #[.iface 86 (.slice B m d)] 131)).alloc (.cells #[.int .i64 a] 3)):=by
  intro W s f A1 n1 c1 A2 n2 c2 A3 n3 c3 A4 n4 c4 q r hW hv hr;exact firstAt_any _ _ s f A1 n1 c1 A2 n2 c2 A3 n3 c3 A4 n4 c4 q r W B m d t a (ht.ext (ex.trans hW)) hm ha hv (hok r hr) (hW.cell (by simp)) (hW.cell (by simp))
 have HC:=hid (IndexRule_any A n c l _ _ _ _ eg hp (h.ext ex));clear hp;go_enter Tryz.func34,Tryz.ntmps34;go_wp2_with (go_at_call 64;refine HC.out.mono ?_;rintro e w1 ⟨rfl,hx⟩);go_ret;exact⟨rfl,ex.trans hx⟩
end Go.Proofs.YthomjcjnalfipaaGreatDoor
