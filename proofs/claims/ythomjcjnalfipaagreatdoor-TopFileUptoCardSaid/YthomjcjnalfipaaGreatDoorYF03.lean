/- The law TopFile, second form: of texts of 1048576 bytes at most it answers true; arguments stay. -/
import Derived.Lib.QuoteLoop
import Derived.Lib.TrimUEq
import Derived.Test.YthomjcjnalfipaaGreatDoorYB44
import Derived.Test.YthomjcjnalfipaaGreatDoorYF02
set_option linter.all false
set_option maxRecDepth 100000
set_option maxHeartbeats 4000000
open Go.Lib (hid)
namespace Go.Proofs.YthomjcjnalfipaaGreatDoor
theorem wrongPas_rules {p:Pas} (h:wrongPas p=0):wrongRules p.rules=(0,0)/\(p.name≠ .empty->p.rules=[]):=by
 unfold wrongPas at h;by_cases h1:p.name=.empty
 ·rw[if_pos h1] at h;exact⟨(wrongRules_zero h).1,fun hn=>absurd h1 hn⟩
 ·rw[if_neg h1] at h;by_cases h2:(!(passS.any fun x=>decide (p.name=x)))=true
  ·rw[if_pos h2] at h;simp at h
  ·rw[if_neg h2] at h;by_cases h3:0<p.rules.length
   ·rw[if_pos h3] at h;simp at h
   ·have:p.rules=[]:=List.eq_nil_of_length_eq_zero (by omega);exact⟨by rw[this];rfl,fun _=>this⟩
theorem meant_none {s:Script} (h:s.filt=false) (x:Int):meant s x=true:=by unfold meant;rw[h];rfl
def fileF:List Pas->List Int->Option (List Int)
 | [],l=>some l
 | p::ps,l=>if p.name=removeS then fileF ps [] else if p.name=upperS then fileF ps (l.map upF) else if p.name=lowerS then fileF ps (l.map loF) else
  if p.name=.empty then (if (runF p.rules l).1≠0 then none else fileF ps (runAll p.rules l).text) else fileF ps l
theorem vm_run {l:List Rule} {t:List Int} (h:(vmE l t).1=0):runF l t=(0,0)/\vmV l t=(runAll l t).text:=by
 have h':=h;unfold vmE at h';by_cases hc:(checkRun l t).1≠0
 ·rw[if_pos hc] at h';exact absurd h' hc
 ·rw[if_neg hc] at h';by_cases h5:compE l≠0
  ·rw[if_pos h5] at h';simp at h'
  ·rw[if_neg h5] at h';have hc0:(checkRun l t).1=0:=Decidable.not_not.1 hc;refine⟨by rw[runF_ok hc0];exact Prod.ext h' rfl,?_⟩;unfold vmV;rw[if_neg (by simp[h]),runAll_ok hc0]
theorem pas_name {p:Pas} (h:wrongPas p=0) (h1:p.name≠upperS) (h2:p.name≠lowerS) (h3:p.name≠removeS) (h4:p.name≠nullS):p.name=.empty:=by
 unfold wrongPas at h;by_cases he:p.name=.empty
 ·exact he
 ·exfalso;rw[if_neg he] at h
  have hany:(passS.any fun x=>decide (p.name=x))=false:=by
   rw[List.any_eq_false];intro x hx;simp only[passS,List.mem_cons,List.not_mem_nil,or_false] at hx;simp only[decide_eq_true_eq];rcases hx with rfl | rfl | rfl | rfl
   ·exact h2
   ·exact h4
   ·exact h3
   ·exact h1
  rw[hany] at h;simp at h
theorem fileF_upper {p:Pas} {ps:List Pas} {t:List Int} (h:p.name=upperS):fileF (p::ps) t=fileF ps (t.map upF):=by rw[fileF,if_neg (by rw[h];decide),if_pos h]
theorem fileF_lower {p:Pas} {ps:List Pas} {t:List Int} (h:p.name=lowerS):fileF (p::ps) t=fileF ps (t.map loF):=by rw[fileF,if_neg (by rw[h];decide),if_neg (by rw[h];decide),if_pos h]
theorem fileF_remove {p:Pas} {ps:List Pas} {t:List Int} (h:p.name=removeS):fileF (p::ps) t=fileF ps []:=by rw[fileF,if_pos h]
theorem fileF_other {p:Pas} {ps:List Pas} {t:List Int} (h1:p.name≠upperS) (h2:p.name≠lowerS) (h3:p.name≠removeS) (h4:p.name≠ .empty):fileF (p::ps) t=fileF ps t:=by rw[fileF,if_neg h3,if_neg h1,if_neg h2,if_neg h4]
theorem fileF_rules {p:Pas} {ps:List Pas} {t:List Int} (h:p.name=.empty):fileF (p::ps) t=if (runF p.rules t).1≠0 then none else fileF ps (runAll p.rules t).text:=by
 rw[fileF,if_neg (by rw[h];decide),if_neg (by rw[h];decide),if_neg (by rw[h];decide),if_pos h]
theorem file_all:∀ {ps:List Pas} {k:Nat} {t:List Int},(∀ p∈ps,wrongPas p=0)->(allP k ps t).2.1=0->fileF ps t=some (allP k ps t).1
 | [],k,t,_,_=>rfl
 | p::ps,k,t,hw,h=>by
  unfold allP at h ⊢;by_cases hp:(passF p t).2≠0
  ·rw[if_pos hp] at h;exact absurd h hp
  ·rw[if_neg hp] at h ⊢;have ih:=file_all (fun q hq=>hw q (by simp[hq])) h;have hp0:(passF p t).2=0:=Decidable.not_not.1 hp;clear h hp;by_cases h1:p.name=upperS
   ·rw[passF_upper h1] at ih ⊢;rw[fileF_upper h1];exact ih
   by_cases h2:p.name=lowerS
   ·rw[passF_lower h2] at ih ⊢;rw[fileF_lower h2];exact ih
   by_cases h3:p.name=removeS
   ·rw[passF_remove h3] at ih ⊢;rw[fileF_remove h3];exact ih
   by_cases h4:p.name=nullS
   ·rw[passF_null h4] at ih ⊢;rw[fileF_other h1 h2 h3 (by rw[h4];decide)];exact ih
   rw[passF_rules h1 h2 h3 h4] at hp0 ih ⊢;rw[fileF_rules (pas_name (hw p (by simp)) h1 h2 h3 h4)];obtain⟨e1,e2⟩:=vm_run hp0;rw[e1,if_neg (by simp),<- e2];exact ih
theorem run_nil {l:List Rule} (h:(wrongRules l).1=0):runF l []=(0,0)/\(runAll l []).text=[]:=by
 have hs:=run_still (l:=l) (t:=[]) (check_both h rfl) fun a ha=>by simp at ha
 rw[hs.1,hs.2];exact⟨rfl,rfl⟩
theorem file_nil:∀ {ps:List Pas},(∀ p∈ps,wrongPas p=0)->fileF ps []=some []
 | [],_=>rfl
 | p::ps,hw=>by
  have ih:=file_nil fun q hq=>hw q (List.mem_cons_of_mem _ hq);unfold fileF;obtain⟨e1,e2⟩:=run_nil (l:=p.rules) (by rw[(wrongPas_rules (hw p (by simp))).1]);rw[e1,e2];simp only[List.map_nil,ih,ne_eq,not_true_eq_false,if_false,ite_self]
theorem goS_whole {s:Script} (h:s.filt=false):∀ {r pc out:List Int},goS s r pc out=match flushF s (pc++r) out with
  | .inl e=>([],e)
  | .inr o=>lastF s o
 | [],pc,out=>by rw[List.append_nil];rfl
 | x::r,pc,out=>by
  unfold goS;rw[if_pos (meant_none h x),goS_whole h,List.append_assoc];rfl
theorem file_law {s:Script} {t:List Int} (h:s.filt=false) (he:(goF s t).2.1=0):fileF s.passes t=some (goF s t).1:=by
 unfold goF at he ⊢;by_cases h1:(wrongScript s).1≠0
 ·rw[if_pos h1] at he;exact absurd he h1
 rw[if_neg h1] at he ⊢;obtain⟨_,_,hw⟩:=wrongScript_zero (Decidable.not_not.1 h1);by_cases h2:wrongText t≠0
 ·rw[if_pos h2] at he;exact absurd he h2
 rw[if_neg h2] at he ⊢;rw[goS_whole h] at he ⊢;unfold flushF at he ⊢;rw[List.nil_append] at he ⊢;by_cases h3:t=[]
 ·rw[if_pos h3] at he ⊢;subst h3;exact file_nil hw
 rw[if_neg h3] at he ⊢;by_cases h4:(allP 0 s.passes t).2.1≠0
 ·rw[if_pos h4] at he;exact absurd he h4
 rw[if_neg h4] at he ⊢;rw[file_all hw (Decidable.not_not.1 h4)];simp only[List.nil_append] at he ⊢;unfold lastF at he ⊢;by_cases h5:4000<(allP 0 s.passes t).1.length
 ·rw[if_pos h5] at he;simp at he
 ·rw[if_neg h5]
end Go.Proofs.YthomjcjnalfipaaGreatDoor
namespace Go.Proofs.YthomjcjnalfipaaGreatDoor
open Go.RowKit
theorem each_any (A:Option Addr) (n c:Nat) (l:List Int) (w:World) (g:FuncId) (F:Int->Int) (h:Runes w A n c l) (hn:n<=60000) (eg:∀ args w,(callFunc g args).run Tryz.prog w=.ok (.enter g args) w)
  (hF:∀ W r,i32 r->Calls Tryz.prog g #[.int .i32 r] W fun e w'=>e=.returned (.int .i32 (F r))/\Ext W w') (hb:∀ r,i32 r->i32 (F r)) :
  Calls Tryz.prog 17 #[.slice A n c,.func (.func g) #[] #[]] w fun e w'=>∃ v,e=.returned v/\OwnR rRune 21 1 w.heap.size w' v (l.map F)/\Ext w w':=by
 have hm:=h.max;unfold maxLen at hm;have hcap:=h.cap;have hlen:=hid h.len;have HF:=hid hF;have HB:=hid hb;clear hF hb;go_enter Tryz.func17,Tryz.ntmps17;go_wp2;go_loopw [5,10] (fun v i wr=>∃ k:Nat,k<=n/\i=.int .i64 k/\OwnR rRune 21 1 w.heap.size wr v ((l.take k).map F)/\Ext w wr) (fun _ i _=>n-(intOf i).toNat);case atStart=>exact⟨0,by omega,rfl,OwnR.nil _ _ _ _ _,Ext.refl _⟩
 case round=>
  obtain⟨k,hk,rfl,o,hx⟩:=hrel;by_cases hlt:k<n
  ·obtain⟨x,hxx⟩:=h.idx hlt;obtain⟨b,off,rfl,⟨_,hne⟩,hc,hx1,hx2⟩:=(h.ext hx).rune hxx;have TK:=hid (take_snoc hxx);have C:=hid (HF.out wr x ⟨hx1,hx2⟩);have hFb:=HB.out x ⟨hx1,hx2⟩;have HL:Hid (((l.take k).map F).length<=60000-1):=hid (by rw[List.length_map,List.length_take];omega);clear hxx;go_wp2_with fail;refine C.out.mono ?_;rintro e w2 ⟨rfl,y2⟩;have f2:=(Ext.refl w2).alloc (.cells #[.int .i32 (F x)] 21);have S2:=hid (one_new32 w2 (F x) 21 hFb);have O2:=hid (o.ext (keep_rune bot) (y2.trans f2));have X2:=hid (hx.trans (y2.trans f2));clear o hx y2;go_wp2_with (at_builtin;refine wpList_appS T_rune (by omega) rfl (.tmp 14) (.tmp 18) rfl rfl O2.out rfl S2.out (fun _ _ h=>h) one_rune (keep_rune bot) (bot_no _) (by have:=HL.out;omega) X2.out.size ?_;intro v3 w3 o3 g3 hat3;have x3:=X2.out.app g3 O2.out);go_roundw;case rel=>exact⟨k+1,by omega,by go_num,by rw[TK.out,List.map_append];exact o3,x3⟩
   case measure=>simp[intOf];omega
  ·have hkn:l.take k=l:=List.take_of_length_le (by rw[hlen.out];omega);rw[hkn] at o;go_wp2;go_ret;exact⟨_,rfl,o,hx⟩
theorem goF_len {s:Script} {t:List Int} (he:(goF s t).2.1=0):t.length<=4000:=by
 unfold goF at he;by_cases h1:(wrongScript s).1≠0
 ·rw[if_pos h1] at he;exact absurd he h1
 rw[if_neg h1] at he;by_cases h2:wrongText t≠0
 ·rw[if_pos h2] at he;exact absurd he h2
 exact (text_parts (Decidable.not_not.1 h2)).1
theorem run_len {l:List Rule} {t:List Int} (h:t.length<=4000) (hf:(runF l t).1=0):(runAll l t).text.length<=4000:=by
 by_cases hc:(checkRun l t).1≠0
 ·unfold runAll;rw[if_pos hc];simp
 ·have hc0:=Decidable.not_not.1 hc;obtain⟨hr,ht⟩:=check_parts hc0;obtain⟨_,_,hok⟩:=wrongRules_zero hr;obtain⟨t1,t2⟩:=text_parts ht;rw[runAll_ok hc0];exact play_len hok _ _ t1 t2
theorem fileF_drop {ps:List Pas} {k:Nat} {p:Pas} (h:ps[k]? =some p) (t:List Int):fileF (ps.drop k) t=fileF (p::ps.drop (k+1)) t:=by rw[drop_cons h]
theorem TopFile_any (s t:ByteArray) (w:World) (hs:s.size<=1048576) (ht:t.size<=1048576):Calls Tryz.prog 5 #[.string s,.string t] w fun e w'=>e=.returned (.bool true)/\Ext w w':=by
 have HAl:=hid (alive_any w);have HSc:=hid (fun W=>script_any s W hs);have HD:=hid (fun W=>Decode_any t W ht);have eu:∀ args w,(callFunc 15 args).run Tryz.prog w=.ok (.enter 15 args) w:=enters Tryz.func15 (by kernel_rfl) rfl;have el:∀ args w,(callFunc 16 args).run Tryz.prog w=.ok (.enter 16 args) w:=enters Tryz.func16 (by kernel_rfl) rfl;have EU:=hid eu;have EL:=hid el;clear eu el;have hdl:=decodeF_len t
 cases hsc:scriptF s with
 | none=>
  rw[hsc] at HSc;clear hsc;go_enter Tryz.func5,Tryz.ntmps5
  go_wp2_with (first
   | (go_at_call 8;refine HAl.out.mono ?_;rintro e w1 ⟨rfl,x1⟩)
   | (go_at_call 9;refine (HSc.out _).mono ?_;rintro e w2 ⟨x2,f,A1,n1,c1,A2,n2,c2,rfl⟩))
  go_ret;exact⟨rfl,(x1.trans x2).alloc _⟩
 | some S=>
  rw[hsc] at HSc;clear hsc;obtain⟨sf,so,sp⟩:=S;cases sf
  case' true=>
   go_enter Tryz.func5,Tryz.ntmps5
   go_wp2_with (first
    | (go_at_call 8;refine HAl.out.mono ?_;rintro e w1 ⟨rfl,x1⟩)
    | (go_at_call 9;refine (HSc.out _).mono ?_;rintro e w2 ⟨x2,v,rfl,A1,n1,c1,A2,n2,c2,hv,r1,r2⟩;dsimp only at hv r1 r2;subst hv;clear r1 r2))
   go_ret;exact⟨rfl,(x1.trans x2).alloc _⟩
  have HLaw:=hid (fun (he:(goF ⟨false,so,sp⟩ (decodeF t)).2.1=0)=>(⟨file_law (s:=⟨false,so,sp⟩) rfl he,goF_len he⟩:_/\_));go_enter Tryz.func5,Tryz.ntmps5
  go_upto_region 6 with (first
   | (go_at_call 8;refine HAl.out.mono ?_;rintro e w1 ⟨rfl,x1⟩)
   | (go_at_call 9;refine (HSc.out _).mono ?_;rintro e w2 ⟨x2,v,rfl,A1,n1,c1,A2,n2,c2,hv,r1,r2⟩;dsimp only at hv r1 r2;subst hv;have R1:=hid r1;have R2:=hid r2;have X2:=hid (x1.trans x2);clear r1 r2))
  have f3:=(Ext.refl w2).alloc (.cells #[.bool false,.slice A1 n1 c1,.slice A2 n2 c2] 26);have SB:=ScV.new w2 false A1 n1 c1 A2 n2 c2 26;obtain⟨p0,p1,p2,_,_⟩:=SB;have R13:=hid ((R1.out.ext (keep_span _) f3).mono (fun _ _ h=>h) (fun _ _=>trivial));have R23:=hid ((R2.out.ext (keep_pas _) f3).mono (fun _ _ h=>mono_pas (fun _ _=>trivial) h) (fun _ _=>trivial));have X3:=hid (X2.out.trans f3);have hbw:w2.heap.size<(w2.alloc (.cells #[.bool false,.slice A1 n1 c1,.slice A2 n2 c2] 26)).heap.size:=by simp
  clear f3 R1 R2 X2;generalize w2.alloc (.cells #[.bool false,.slice A1 n1 c1,.slice A2 n2 c2] 26)=w3 at *;go_upto_region 7 with (go_at_call 11;refine (HD.out _).mono ?_;rintro e w4 ⟨v,rfl,ov,x4⟩;obtain⟨AT,cT,hv,sT⟩:=ov.top;subst hv;have ST:=hid sT;have X4:=hid x4;clear ov sT);have q0:=X4.out.cell p0;have q1:=X4.out.cell p1;have q2:=X4.out.cell p2;have R14:=hid (R13.out.ext (keep_span _) X4.out);have R24:=hid (R23.out.ext (keep_pas _) X4.out);have X04:=hid (X3.out.trans X4.out);have HGo:=hid (Go_one false A1 n1 c1 A2 n2 c2 so sp AT _ cT (decodeF t) w4 R14.out R24.out ST.out);clear p0 p1 p2 R13 R23 X3 X4 HD R14;generalize decodeF t=T at *;generalize T.length=m at *;have hbl:w2.heap.size<w4.heap.size:=World.block_lt_of_cell? w4 _ q0;have hlen:=hid R24.out.len;have hcap:=R24.out.cap;have hmax:=R24.out.max;unfold maxLen at hmax;obtain⟨Z,hZ⟩:∃ z,z=goF ⟨false,so,sp⟩ T:=⟨_,rfl⟩
  rw[<- hZ] at HGo HLaw;clear hZ;obtain⟨O,z1,z2⟩:=Z;dsimp only at HGo HLaw;by_cases hz:z1=0
  case' neg=>
   have gz:(z1 != 0)=true:=by simpa using hz
   clear hz HLaw;go_wp2_with (go_at_call 10;refine HGo.out.mono ?_;rintro e w5 ⟨⟨A5,n5,c5,rfl,s5⟩,x5⟩);go_ret;exact⟨rfl,X04.out.trans (x5.alloc _)⟩
  subst hz;have HL:=hid (HLaw.out rfl);clear HLaw;go_upto_region 11 with (go_at_call 10;refine HGo.out.mono ?_;rintro e w5 ⟨⟨A5,n5,c5,rfl,s5⟩,x5⟩;have y2:=x5.cell q2;have hy5:=World.block_lt_of_cell? w5 _ y2;have hyn:w2.heap.size≠w5.heap.size:=Nat.ne_of_lt hy5;have S5:=hid s5;have X5:=hid (x5.alloc (.cells #[.int .i64 0,.int .i64 z2] 34));clear s5);have S6:=hid (Runes.ext (S5.out.mono (fun _ _ h=>h) (fun _ _=>trivial)) ((Ext.refl w5).alloc (.cells #[.int .i64 0,.int .i64 z2] 34)));have ST6:=hid (Runes.ext ST.out X5.out);have R26:=hid (R24.out.ext (keep_pas _) X5.out);have X06:=hid (X04.out.trans X5.out);clear S5 R24 X04 ST HGo q0 q1 q2 y2;generalize w5.alloc (.cells #[.int .i64 0,.int .i64 z2] 34)=w6 at *;clear X5;go_loopw [7,41] (fun v7 v wr=>∃ (k:Nat) (cur:List Int) (A:Option Addr) (q d:Nat),k<=n2/\v=.int .i64 k/\v7=.slice A q d/\Hid (Runes wr A q d cur)/\Hid (fileF (sp.drop k) cur=some O)/\q<=4000/\Ext w6 wr) (fun _ v _=>n2-(intOf v).toNat);case atStart=>exact⟨0,T,_,_,_,by omega,rfl,rfl,ST6,hid HL.out.1,HL.out.2,Ext.refl _⟩
  case round=>
   obtain⟨k,cur,A,q,d,hk,rfl,rfl,SC,HK,hq,hx⟩:=hrel;have hqd:=SC.out.cap;have hdm:=SC.out.max;unfold maxLen at hdm;by_cases hlt:k<n2
   ·obtain⟨p,hpp⟩:=R26.out.idx hlt;obtain⟨b,off,A',n',c',hA,⟨hb0,_⟩,hps,hr,c0,c1'⟩:=SlR.pas (R26.out.ext (keep_pas top) hx) hpp;subst hA;have hne:b≠wr.heap.size:=by omega
    have HK1:=hid ((fileF_drop hpp cur).symm.trans HK.out);obtain⟨nm,rs⟩:=p;dsimp only at *;have ea:=(Ext.refl wr).alloc (.cells #[.string nm,.slice A' n' c'] 42);have HRl:=hid (fun W (e:Ext wr W)=>show Rules W A' n' c' rs from (hr.ext (keep_ruleO top) e).mono (fun _ _ h=>rRuleO_top h) (fun _ _=>trivial));have SC1:=hid (Runes.ext SC.out ea);clear hpp hr HK;by_cases h1:nm=removeS
    ·have g1:(nm.toList==[114,101,109,111,118,101])=true:=by rw[h1,Lib.toList_data];rfl
     have HK2:=hid ((fileF_remove (p:=⟨nm,rs⟩) (ps:=sp.drop (k+1)) (t:=cur) h1).symm.trans HK1.out);clear h1 HK1;go_wp2;go_roundw;case rel=>exact⟨k+1,[],none,0,0,by omega,by go_num,rfl,hid (SlR.nil _ _ _ _ _ _ (by unfold maxLen;omega)),HK2,by omega,hx.trans ea⟩
     case measure=>simp[intOf];omega
    have g1:(nm.toList==[114,101,109,111,118,101])=false:=lit_ne h1 rfl;by_cases h2:nm=upperS
    ·have g2:(nm.toList==[117,112,112,101,114])=true:=by rw[h2,Lib.toList_data];rfl
     have HK2:=hid ((fileF_upper (p:=⟨nm,rs⟩) (ps:=sp.drop (k+1)) (t:=cur) h2).symm.trans HK1.out);have HM:=hid (each_any A q d cur _ 15 upF SC1.out (by omega) EU.out (fun W r hr=>Upper_any r hr W) (fun r hr=>upF_bd hr));have HLn:=hid (show (cur.map upF).length=q by rw[List.length_map,SC.out.len]);clear h2 h1 HK1;go_wp2_with (go_at_call 17;refine HM.out.mono ?_;rintro e w8 ⟨v,rfl,o,x8⟩;obtain⟨A8,c8,hv,s8⟩:=o.top;rw[HLn.out] at hv s8;subst hv;have S8:=hid s8;clear o s8);go_roundw;case rel=>exact⟨k+1,_,_,_,_,by omega,by go_num,rfl,S8,HK2,hq,hx.trans (ea.trans x8)⟩
     case measure=>simp[intOf];omega
    have g2:(nm.toList==[117,112,112,101,114])=false:=lit_ne h2 rfl;by_cases h3:nm=lowerS
    ·have g3:(nm.toList==[108,111,119,101,114])=true:=by rw[h3,Lib.toList_data];rfl
     have HK2:=hid ((fileF_lower (p:=⟨nm,rs⟩) (ps:=sp.drop (k+1)) (t:=cur) h3).symm.trans HK1.out);have HM:=hid (each_any A q d cur _ 16 loF SC1.out (by omega) EL.out (fun W r hr=>Lower_any r hr W) (fun r hr=>loF_bd hr));have HLn:=hid (show (cur.map loF).length=q by rw[List.length_map,SC.out.len]);clear h3 h2 h1 HK1;go_wp2_with (go_at_call 17;refine HM.out.mono ?_;rintro e w8 ⟨v,rfl,o,x8⟩;obtain⟨A8,c8,hv,s8⟩:=o.top;rw[HLn.out] at hv s8;subst hv;have S8:=hid s8;clear o s8);go_roundw;case rel=>exact⟨k+1,_,_,_,_,by omega,by go_num,rfl,S8,HK2,hq,hx.trans (ea.trans x8)⟩
     case measure=>simp[intOf];omega
    have g3:(nm.toList==[108,111,119,101,114])=false:=lit_ne h3 rfl;by_cases h4:nm=.empty
    ·have g4:(nm.toList==[])=true:=by rw[h4,Lib.toList_data];rfl
     have h:=(fileF_rules (p:=⟨nm,rs⟩) (ps:=sp.drop (k+1)) (t:=cur) h4).symm.trans HK1.out;dsimp only at h;by_cases hf:(runF rs cur).1≠0
     ·rw[if_pos hf] at h;cases h
     rw[if_neg hf] at h;have hf0:=Decidable.not_not.1 hf;have HK2:=hid h;have HLn:=hid (run_len (l:=rs) (t:=cur) (by rw[SC.out.len];exact hq) hf0);have HRun:=hid (Run_any A' n' c' rs A q d cur _ (HRl.out _ ea) SC1.out);unfold RunR at HRun;rw[hf0] at HRun;clear h4 h3 h2 h1 HK1 h hf hf0;generalize (runAll rs cur).text=nx at *;generalize (runAll rs cur).steps=u1 at *;generalize (runAll rs cur).put=u2 at *;generalize (runF rs cur).2=u3 at *;go_wp2_with (go_at_call 18;refine HRun.out.mono ?_;rintro e w8 ⟨⟨A8,n8,c8,rfl,s8⟩,x8⟩;have S8:=hid s8;clear s8);go_roundw;case rel=>exact⟨k+1,nx,A8,n8,c8,by omega,by go_num,rfl,hid (Runes.ext S8.out (((Ext.refl w8).alloc _).alloc _)),HK2,by rw[<- S8.out.len];exact HLn.out,hx.trans (ea.trans ((x8.alloc _).alloc _))⟩
     case measure=>simp[intOf];omega
    have g4:(nm.toList==[])=false:=lit_ne h4 rfl;have HK2:=hid ((fileF_other (p:=⟨nm,rs⟩) (ps:=sp.drop (k+1)) (t:=cur) h2 h3 h1 h4).symm.trans HK1.out);clear h4 h3 h2 h1 HK1;go_wp2;go_roundw;case rel=>exact⟨k+1,cur,A,q,d,by omega,by go_num,rfl,SC1,HK2,hq,hx.trans ea⟩
    case measure=>simp[intOf];omega
   ·have he:cur=O:=by
     have h:=HK.out;rw[List.drop_of_length_le (by rw[hlen.out];omega)] at h;exact Option.some.inj h
    have HSm:=hid (Same_any _ _ _ _ _ _ O cur wr (Runes.ext S6.out hx) SC.out);go_wp2_with (go_at_call 12;refine HSm.out.mono ?_;rintro e w8 ⟨rfl,x8⟩);go_ret;exact⟨by simp[he],X06.out.trans (hx.trans x8)⟩
end Go.Proofs.YthomjcjnalfipaaGreatDoor
namespace Go.Proofs.YthomjcjnalfipaaGreatDoor.rowTopFile
open Go.ChangeShapes Go.WideShapes Go.ChangeAt Go.RowKit
open Go.ChangeMaps (open_string shut_string)
theorem reads (os:Os) {H:Type} (enc:TypeId×Value->H):∃ places,DataW.whole enc Tryz.prog ((topWorld os).forCall (fun _ _=>0) ⟨#[],#[.string ⟨#[]⟩,.string ⟨#[]⟩],[]⟩).memory Tryz.f5.params.toList (Rows.OpenSpec.upto Rows.topFileSpec).vars false #[Value.string ⟨#[]⟩,Value.string ⟨#[]⟩].toList 8=some ([.lit (.string []),.lit (.string [])],[],places):=
 ⟨[],by kernel_rfl⟩
theorem lifted (os:Os) (started:os.Started) (H:Type) (enc:TypeId×Value->H) (F:Stop.Interp) :
  ReturnsInHanded {} Tryz.checked os 5 .any ((Rows.OpenSpec.upto Rows.topFileSpec).preRow enc Tryz.prog Tryz.f5 Rows.topFileUptoRow.domain false Rows.topFileUptoRow.laid) (((Rows.OpenSpec.upto Rows.topFileSpec).at F).post enc Tryz.prog Tryz.f5 false true false false):=by
 obtain⟨places,hx⟩:=reads os enc
 refine returnsInHanded_of_row (C:=Tryz.checked) (s:=(Rows.OpenSpec.upto Rows.topFileSpec)) topOwn started (by kernel_rfl) Tryz.func5
  (witness_row_atRef (enc:=enc) (C:=Tryz.checked) false (topWorld os) #[Value.string ⟨#[]⟩,Value.string ⟨#[]⟩] rfl (by kernel_rfl) (by kernel_rfl) (by kernel_rfl)
   (OpenSpec.preRow_of_cond 8 hx (by kernel_rfl) (fun k hk=>by cases hk;kernel_rfl) (by kernel_rfl) (topLaid os _))) ?_
 intro W base args ds gs before hval0 hW _ hcond _ _ _ _;have hk:Rows.uptoSmall H (ds++gs)=true:=hcond _ rfl;have hval:∀ (j:Nat) t v,Tryz.f5.params[j]? =some t->args[j]? =some v->Value.okWide Tryz.prog W .any base t v:=hval0;have hW':=hW;obtain⟨p,q,hA0,hV,rfl,hfz,hnd⟩:=hW;have hA:DataW.TrodAll enc Tryz.prog W 0 (fun _=>true) true Tryz.f5.params.toList args.toList ds p:=hA0;rw[Tryz.params5] at hA hval;obtain⟨v0,vs0,d0,ds0,p0,q0,hargs,rfl,rfl,h0,r0⟩:=trodAll_cons hA;obtain⟨v1,vs1,d1,ds1,p1,q1,rfl,rfl,rfl,h1,r1⟩:=trodAll_cons r0;obtain⟨rfl,rfl,rfl⟩:=trodAll_nil r1;obtain rfl:args=#[v0,v1]:=by cases args;simp_all
 obtain⟨rfl,rfl⟩:=trodVars_none hV;obtain⟨s0,rfl,rfl,rfl,ws0⟩:=open_string Tryz.underlying9 (hval 0 9 v0 rfl rfl) h0;have z0:s0.size<=1048576:=by have:=text_bulk s0.data.toList hk (by simp);rw[bytes_len] at this;exact this
 obtain⟨s1,rfl,rfl,rfl,ws1⟩:=open_string Tryz.underlying9 (hval 1 9 v1 rfl rfl) h1;have z1:s1.size<=1048576:=by have:=text_bulk s1.data.toList hk (by simp);rw[bytes_len] at this;exact this
 clear hA0;simp only[List.append_nil] at hW';refine (TopFile_any s0 s1 W z0 z1).mono fun e W' ⟨he,hg⟩=>?_;subst he;refine⟨_,rfl,_,_,_,[],_,[],hW',trodAll_mk1 (shut_bool Tryz.underlying4 _),(trodAll_cons_mk (shut_string Tryz.underlying9 ws0) (trodAll_cons_mk (shut_string Tryz.underlying9 ws1) trodAll_mk0)),rfl,hg.frame _,fun h=>by cases h⟩
theorem and2 {a b:Bool} (h:a=true) (k:b=true):(a&&b)=true:=by rw[h,k];rfl
theorem closed:joinedFacts Tryz.pinned.checked.prog 5 Tryz.f5 (Rows.OpenSpec.upto Rows.topFileSpec).bare Rows.topFileUptoRow=true:=by
 unfold joinedFacts
 repeat (refine and2 ?_ (by kernel_rfl))
 kernel_rfl
theorem over:Rows.topFileUptoRow.holds Tryz.pinned (Rows.OpenSpec.upto Rows.topFileSpec):=
 OpenClaim.holds_of_cond 5 Tryz.f5 rfl rfl rfl rfl rfl rfl rfl ⟨rfl,rfl,rfl,rfl,rfl⟩ rfl rfl rfl rfl rfl (by kernel_rfl) Tryz.func5 closed
  (of_decide_eq_true (by kernel_rfl)) (by unfold Func.isWrapper;first | (rw[if_pos (by decide +kernel)];kernel_rfl) | (rw[if_neg (by decide +kernel)];exact⟨rfl,rfl⟩))
  (fun os started H enc _ F=>by rw[OpenClaim.pre_eq_preRow];exact lifted os started H enc F)
theorem plain (f:FuncId) (fn:Func) (hf:Tryz.pinned.checked.prog.funcNamed Rows.topFileUptoRow.func=some f) (hfn:Tryz.pinned.checked.prog.funcs[f]? =some fn) :
  true=Tryz.pinned.checked.prog.looks []/\∀ (j:Nat) t,fn.params[j]? =some t->Tryz.pinned.checked.prog.wantsStandIn t=false:=by
 obtain rfl:f=5:=Option.some.inj ((show Tryz.pinned.checked.prog.funcNamed Rows.topFileUptoRow.func=some 5 by kernel_rfl).symm.trans hf) |>.symm
 obtain rfl:fn=Tryz.f5:=(Option.some.inj (Tryz.func5.symm.trans hfn)).symm;refine⟨by kernel_rfl,fun j t ht=>?_⟩;rw[Tryz.params5] at ht;obtain rfl:t=9:=by simpa using Array.mem_of_getElem? ht
 exact (show Tryz.prog.wantsStandIn 9=false by kernel_rfl)
theorem proved:Rows.TopFileUptoCardSaid:=
 Claim7.holds_tied_plain_at .later [] _ _ _ _ over (fun _ h=>by cases h) (by kernel_rfl) (fun _ h=>by cases h) topFileUpto_row_tie rfl ⟨rfl,rfl⟩ (by kernel_rfl) rfl plain (by kernel_rfl)
end Go.Proofs.YthomjcjnalfipaaGreatDoor.rowTopFile
#print axioms Go.Proofs.YthomjcjnalfipaaGreatDoor.rowTopFile.proved
