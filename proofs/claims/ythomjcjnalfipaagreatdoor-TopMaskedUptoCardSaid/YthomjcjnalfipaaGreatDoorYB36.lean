/- A part of the proofs of the Top laws. -/
import Derived.Defers
import Derived.Recover
import Derived.Test.YthomjcjnalfipaaGreatDoorRows
import Derived.ProofKit
import Derived.OpenShut
import Derived.ChangeOld
import Derived.Deep.Fields
import Derived.Test.YthomjcjnalfipaaGreatDoorYB35
set_option linter.all false
set_option maxRecDepth 100000
set_option maxHeartbeats 800000
namespace Go.Proofs.YthomjcjnalfipaaGreatDoor
open Go.RowKit
structure PtV (W:World) (b:Nat) (k:Int) (nm:ByteArray) (A:Option Addr) (n c:Nat) (d:Int) (s1 e1:Bool) (A1:Option Addr) (n1 c1:Nat) (A2:Option Addr) (n2 c2:Nat) (A3:Option Addr) (n3 c3:Nat) (q1:Int) (s2 e2:Bool) (A4:Option Addr) (n4 c4:Nat) (A5:Option Addr) (n5 c5:Nat) (A6:Option Addr) (n6 c6:Nat) (q2:Int):Prop where
 box:PtBox W b k nm A n c d s1 e1 A1 n1 c1 A2 n2 c2 A3 n3 c3 q1 s2 e2 A4 n4 c4 A5 n5 c5 A6 n6 c6 q2
 fz:∀ i,W.frozen? ⟨b,i,none⟩=false
section
variable {W W' w : World} {b B b' : Nat} {k : Int} {nm : ByteArray} {A : Option Addr} {n c : Nat} {d : Int} {s1 e1 : Bool} {A1 : Option Addr} {n1 c1 : Nat} {A2 : Option Addr} {n2 c2 : Nat} {A3 : Option Addr} {n3 c3 : Nat} {q1 : Int} {s2 e2 : Bool} {A4 : Option Addr} {n4 c4 : Nat} {A5 : Option Addr} {n5 c5 : Nat} {A6 : Option Addr} {n6 c6 : Nat} {q2 : Int}
theorem PtV.keep (h:PtV W b k nm A n c d s1 e1 A1 n1 c1 A2 n2 c2 A3 n3 c3 q1 s2 e2 A4 n4 c4 A5 n5 c5 A6 n6 c6 q2) (hb:W'.heap[b]? =W.heap[b]?) (hs:W.heap.size<=W'.heap.size):PtV W' b k nm A n c d s1 e1 A1 n1 c1 A2 n2 c2 A3 n3 c3 q1 s2 e2 A4 n4 c4 A5 n5 c5 A6 n6 c6 q2:=
 ⟨⟨(World.cell?_of_block hb).trans h.box.h0,(World.cell?_of_block hb).trans h.box.h1,(World.cell?_of_block hb).trans h.box.h2,(World.cell?_of_block hb).trans h.box.h3,(World.cell?_of_block hb).trans h.box.h4,(World.cell?_of_block hb).trans h.box.h5,(World.cell?_of_block hb).trans h.box.h6,(World.cell?_of_block hb).trans h.box.h7,(World.cell?_of_block hb).trans h.box.h8,(World.cell?_of_block hb).trans h.box.h9,(World.cell?_of_block hb).trans h.box.h10,(World.cell?_of_block hb).trans h.box.h11,(World.cell?_of_block hb).trans h.box.h12,(World.cell?_of_block hb).trans h.box.h13,(World.cell?_of_block hb).trans h.box.h14,(World.cell?_of_block hb).trans h.box.h15,by have:=h.box.lt;omega⟩,fun i=>by have:=h.fz i;simp only[World.frozen?] at this ⊢;rw[hb];exact this⟩
theorem PtV.ext (h:PtV W b k nm A n c d s1 e1 A1 n1 c1 A2 n2 c2 A3 n3 c3 q1 s2 e2 A4 n4 c4 A5 n5 c5 A6 n6 c6 q2) (e:Ext W W'):PtV W' b k nm A n c d s1 e1 A1 n1 c1 A2 n2 c2 A3 n3 c3 q1 s2 e2 A4 n4 c4 A5 n5 c5 A6 n6 c6 q2:=h.keep (e.block h.box.lt.1) e.size
theorem PtV.mv (h:PtV W b k nm A n c d s1 e1 A1 n1 c1 A2 n2 c2 A3 n3 c3 q1 s2 e2 A4 n4 c4 A5 n5 c5 A6 n6 c6 q2) {j:Nat} (m:Mv B j W W') (hb:b≠B):PtV W' b k nm A n c d s1 e1 A1 n1 c1 A2 n2 c2 A3 n3 c3 q1 s2 e2 A4 n4 c4 A5 n5 c5 A6 n6 c6 q2:=h.keep (m.agree b hb h.box.lt.1) m.size
theorem PtV.off (h:PtV W b k nm A n c d s1 e1 A1 n1 c1 A2 n2 c2 A3 n3 c3 q1 s2 e2 A4 n4 c4 A5 n5 c5 A6 n6 c6 q2) (hb:b≠b') (o:Nat) (v:Value):PtV (W.setCell ⟨b',o,none⟩ v) b k nm A n c d s1 e1 A1 n1 c1 A2 n2 c2 A3 n3 c3 q1 s2 e2 A4 n4 c4 A5 n5 c5 A6 n6 c6 q2:=h.keep (heap_setB hb) (by rw[size_set];exact Nat.le_refl _)
theorem PtV.set0 (h:PtV W b k nm A n c d s1 e1 A1 n1 c1 A2 n2 c2 A3 n3 c3 q1 s2 e2 A4 n4 c4 A5 n5 c5 A6 n6 c6 q2) (x:Int):PtV (W.setCell ⟨b,0,none⟩ (.int .i64 x)) b x nm A n c d s1 e1 A1 n1 c1 A2 n2 c2 A3 n3 c3 q1 s2 e2 A4 n4 c4 A5 n5 c5 A6 n6 c6 q2:=
 ⟨⟨set_same h.box.h0,set_other h.box.h1 (by omega),set_other h.box.h2 (by omega),set_other h.box.h3 (by omega),set_other h.box.h4 (by omega),set_other h.box.h5 (by omega),set_other h.box.h6 (by omega),set_other h.box.h7 (by omega),set_other h.box.h8 (by omega),set_other h.box.h9 (by omega),set_other h.box.h10 (by omega),set_other h.box.h11 (by omega),set_other h.box.h12 (by omega),set_other h.box.h13 (by omega),set_other h.box.h14 (by omega),set_other h.box.h15 (by omega),by rw[size_set];exact h.box.lt⟩,fun i=>by rw[World.frozen?_setCell];exact h.fz i⟩
theorem PtV.set1 (h:PtV W b k nm A n c d s1 e1 A1 n1 c1 A2 n2 c2 A3 n3 c3 q1 s2 e2 A4 n4 c4 A5 n5 c5 A6 n6 c6 q2) (x:ByteArray):PtV (W.setCell ⟨b,1,none⟩ (.string x)) b k x A n c d s1 e1 A1 n1 c1 A2 n2 c2 A3 n3 c3 q1 s2 e2 A4 n4 c4 A5 n5 c5 A6 n6 c6 q2:=
 ⟨⟨set_other h.box.h0 (by omega),set_same h.box.h1,set_other h.box.h2 (by omega),set_other h.box.h3 (by omega),set_other h.box.h4 (by omega),set_other h.box.h5 (by omega),set_other h.box.h6 (by omega),set_other h.box.h7 (by omega),set_other h.box.h8 (by omega),set_other h.box.h9 (by omega),set_other h.box.h10 (by omega),set_other h.box.h11 (by omega),set_other h.box.h12 (by omega),set_other h.box.h13 (by omega),set_other h.box.h14 (by omega),set_other h.box.h15 (by omega),by rw[size_set];exact h.box.lt⟩,fun i=>by rw[World.frozen?_setCell];exact h.fz i⟩
theorem PtV.set2 (h:PtV W b k nm A n c d s1 e1 A1 n1 c1 A2 n2 c2 A3 n3 c3 q1 s2 e2 A4 n4 c4 A5 n5 c5 A6 n6 c6 q2) (X:Option Addr) (y z:Nat):PtV (W.setCell ⟨b,2,none⟩ (.slice X y z)) b k nm X y z d s1 e1 A1 n1 c1 A2 n2 c2 A3 n3 c3 q1 s2 e2 A4 n4 c4 A5 n5 c5 A6 n6 c6 q2:=
 ⟨⟨set_other h.box.h0 (by omega),set_other h.box.h1 (by omega),set_same h.box.h2,set_other h.box.h3 (by omega),set_other h.box.h4 (by omega),set_other h.box.h5 (by omega),set_other h.box.h6 (by omega),set_other h.box.h7 (by omega),set_other h.box.h8 (by omega),set_other h.box.h9 (by omega),set_other h.box.h10 (by omega),set_other h.box.h11 (by omega),set_other h.box.h12 (by omega),set_other h.box.h13 (by omega),set_other h.box.h14 (by omega),set_other h.box.h15 (by omega),by rw[size_set];exact h.box.lt⟩,fun i=>by rw[World.frozen?_setCell];exact h.fz i⟩
theorem PtV.set3 (h:PtV W b k nm A n c d s1 e1 A1 n1 c1 A2 n2 c2 A3 n3 c3 q1 s2 e2 A4 n4 c4 A5 n5 c5 A6 n6 c6 q2) (x:Int):PtV (W.setCell ⟨b,3,none⟩ (.int .i64 x)) b k nm A n c x s1 e1 A1 n1 c1 A2 n2 c2 A3 n3 c3 q1 s2 e2 A4 n4 c4 A5 n5 c5 A6 n6 c6 q2:=
 ⟨⟨set_other h.box.h0 (by omega),set_other h.box.h1 (by omega),set_other h.box.h2 (by omega),set_same h.box.h3,set_other h.box.h4 (by omega),set_other h.box.h5 (by omega),set_other h.box.h6 (by omega),set_other h.box.h7 (by omega),set_other h.box.h8 (by omega),set_other h.box.h9 (by omega),set_other h.box.h10 (by omega),set_other h.box.h11 (by omega),set_other h.box.h12 (by omega),set_other h.box.h13 (by omega),set_other h.box.h14 (by omega),set_other h.box.h15 (by omega),by rw[size_set];exact h.box.lt⟩,fun i=>by rw[World.frozen?_setCell];exact h.fz i⟩
theorem PtV.set4 (h:PtV W b k nm A n c d s1 e1 A1 n1 c1 A2 n2 c2 A3 n3 c3 q1 s2 e2 A4 n4 c4 A5 n5 c5 A6 n6 c6 q2) (x:Bool):PtV (W.setCell ⟨b,4,none⟩ (.bool x)) b k nm A n c d x e1 A1 n1 c1 A2 n2 c2 A3 n3 c3 q1 s2 e2 A4 n4 c4 A5 n5 c5 A6 n6 c6 q2:=
 ⟨⟨set_other h.box.h0 (by omega),set_other h.box.h1 (by omega),set_other h.box.h2 (by omega),set_other h.box.h3 (by omega),set_same h.box.h4,set_other h.box.h5 (by omega),set_other h.box.h6 (by omega),set_other h.box.h7 (by omega),set_other h.box.h8 (by omega),set_other h.box.h9 (by omega),set_other h.box.h10 (by omega),set_other h.box.h11 (by omega),set_other h.box.h12 (by omega),set_other h.box.h13 (by omega),set_other h.box.h14 (by omega),set_other h.box.h15 (by omega),by rw[size_set];exact h.box.lt⟩,fun i=>by rw[World.frozen?_setCell];exact h.fz i⟩
theorem PtV.set5 (h:PtV W b k nm A n c d s1 e1 A1 n1 c1 A2 n2 c2 A3 n3 c3 q1 s2 e2 A4 n4 c4 A5 n5 c5 A6 n6 c6 q2) (x:Bool):PtV (W.setCell ⟨b,5,none⟩ (.bool x)) b k nm A n c d s1 x A1 n1 c1 A2 n2 c2 A3 n3 c3 q1 s2 e2 A4 n4 c4 A5 n5 c5 A6 n6 c6 q2:=
 ⟨⟨set_other h.box.h0 (by omega),set_other h.box.h1 (by omega),set_other h.box.h2 (by omega),set_other h.box.h3 (by omega),set_other h.box.h4 (by omega),set_same h.box.h5,set_other h.box.h6 (by omega),set_other h.box.h7 (by omega),set_other h.box.h8 (by omega),set_other h.box.h9 (by omega),set_other h.box.h10 (by omega),set_other h.box.h11 (by omega),set_other h.box.h12 (by omega),set_other h.box.h13 (by omega),set_other h.box.h14 (by omega),set_other h.box.h15 (by omega),by rw[size_set];exact h.box.lt⟩,fun i=>by rw[World.frozen?_setCell];exact h.fz i⟩
theorem PtV.set6 (h:PtV W b k nm A n c d s1 e1 A1 n1 c1 A2 n2 c2 A3 n3 c3 q1 s2 e2 A4 n4 c4 A5 n5 c5 A6 n6 c6 q2) (X:Option Addr) (y z:Nat):PtV (W.setCell ⟨b,6,none⟩ (.slice X y z)) b k nm A n c d s1 e1 X y z A2 n2 c2 A3 n3 c3 q1 s2 e2 A4 n4 c4 A5 n5 c5 A6 n6 c6 q2:=
 ⟨⟨set_other h.box.h0 (by omega),set_other h.box.h1 (by omega),set_other h.box.h2 (by omega),set_other h.box.h3 (by omega),set_other h.box.h4 (by omega),set_other h.box.h5 (by omega),set_same h.box.h6,set_other h.box.h7 (by omega),set_other h.box.h8 (by omega),set_other h.box.h9 (by omega),set_other h.box.h10 (by omega),set_other h.box.h11 (by omega),set_other h.box.h12 (by omega),set_other h.box.h13 (by omega),set_other h.box.h14 (by omega),set_other h.box.h15 (by omega),by rw[size_set];exact h.box.lt⟩,fun i=>by rw[World.frozen?_setCell];exact h.fz i⟩
theorem PtV.set7 (h:PtV W b k nm A n c d s1 e1 A1 n1 c1 A2 n2 c2 A3 n3 c3 q1 s2 e2 A4 n4 c4 A5 n5 c5 A6 n6 c6 q2) (X:Option Addr) (y z:Nat):PtV (W.setCell ⟨b,7,none⟩ (.slice X y z)) b k nm A n c d s1 e1 A1 n1 c1 X y z A3 n3 c3 q1 s2 e2 A4 n4 c4 A5 n5 c5 A6 n6 c6 q2:=
 ⟨⟨set_other h.box.h0 (by omega),set_other h.box.h1 (by omega),set_other h.box.h2 (by omega),set_other h.box.h3 (by omega),set_other h.box.h4 (by omega),set_other h.box.h5 (by omega),set_other h.box.h6 (by omega),set_same h.box.h7,set_other h.box.h8 (by omega),set_other h.box.h9 (by omega),set_other h.box.h10 (by omega),set_other h.box.h11 (by omega),set_other h.box.h12 (by omega),set_other h.box.h13 (by omega),set_other h.box.h14 (by omega),set_other h.box.h15 (by omega),by rw[size_set];exact h.box.lt⟩,fun i=>by rw[World.frozen?_setCell];exact h.fz i⟩
theorem PtV.set8 (h:PtV W b k nm A n c d s1 e1 A1 n1 c1 A2 n2 c2 A3 n3 c3 q1 s2 e2 A4 n4 c4 A5 n5 c5 A6 n6 c6 q2) (X:Option Addr) (y z:Nat):PtV (W.setCell ⟨b,8,none⟩ (.slice X y z)) b k nm A n c d s1 e1 A1 n1 c1 A2 n2 c2 X y z q1 s2 e2 A4 n4 c4 A5 n5 c5 A6 n6 c6 q2:=
 ⟨⟨set_other h.box.h0 (by omega),set_other h.box.h1 (by omega),set_other h.box.h2 (by omega),set_other h.box.h3 (by omega),set_other h.box.h4 (by omega),set_other h.box.h5 (by omega),set_other h.box.h6 (by omega),set_other h.box.h7 (by omega),set_same h.box.h8,set_other h.box.h9 (by omega),set_other h.box.h10 (by omega),set_other h.box.h11 (by omega),set_other h.box.h12 (by omega),set_other h.box.h13 (by omega),set_other h.box.h14 (by omega),set_other h.box.h15 (by omega),by rw[size_set];exact h.box.lt⟩,fun i=>by rw[World.frozen?_setCell];exact h.fz i⟩
theorem PtV.set9 (h:PtV W b k nm A n c d s1 e1 A1 n1 c1 A2 n2 c2 A3 n3 c3 q1 s2 e2 A4 n4 c4 A5 n5 c5 A6 n6 c6 q2) (x:Int):PtV (W.setCell ⟨b,9,none⟩ (.int .i64 x)) b k nm A n c d s1 e1 A1 n1 c1 A2 n2 c2 A3 n3 c3 x s2 e2 A4 n4 c4 A5 n5 c5 A6 n6 c6 q2:=
 ⟨⟨set_other h.box.h0 (by omega),set_other h.box.h1 (by omega),set_other h.box.h2 (by omega),set_other h.box.h3 (by omega),set_other h.box.h4 (by omega),set_other h.box.h5 (by omega),set_other h.box.h6 (by omega),set_other h.box.h7 (by omega),set_other h.box.h8 (by omega),set_same h.box.h9,set_other h.box.h10 (by omega),set_other h.box.h11 (by omega),set_other h.box.h12 (by omega),set_other h.box.h13 (by omega),set_other h.box.h14 (by omega),set_other h.box.h15 (by omega),by rw[size_set];exact h.box.lt⟩,fun i=>by rw[World.frozen?_setCell];exact h.fz i⟩
theorem PtV.set10 (h:PtV W b k nm A n c d s1 e1 A1 n1 c1 A2 n2 c2 A3 n3 c3 q1 s2 e2 A4 n4 c4 A5 n5 c5 A6 n6 c6 q2) (x:Bool):PtV (W.setCell ⟨b,10,none⟩ (.bool x)) b k nm A n c d s1 e1 A1 n1 c1 A2 n2 c2 A3 n3 c3 q1 x e2 A4 n4 c4 A5 n5 c5 A6 n6 c6 q2:=
 ⟨⟨set_other h.box.h0 (by omega),set_other h.box.h1 (by omega),set_other h.box.h2 (by omega),set_other h.box.h3 (by omega),set_other h.box.h4 (by omega),set_other h.box.h5 (by omega),set_other h.box.h6 (by omega),set_other h.box.h7 (by omega),set_other h.box.h8 (by omega),set_other h.box.h9 (by omega),set_same h.box.h10,set_other h.box.h11 (by omega),set_other h.box.h12 (by omega),set_other h.box.h13 (by omega),set_other h.box.h14 (by omega),set_other h.box.h15 (by omega),by rw[size_set];exact h.box.lt⟩,fun i=>by rw[World.frozen?_setCell];exact h.fz i⟩
theorem PtV.set11 (h:PtV W b k nm A n c d s1 e1 A1 n1 c1 A2 n2 c2 A3 n3 c3 q1 s2 e2 A4 n4 c4 A5 n5 c5 A6 n6 c6 q2) (x:Bool):PtV (W.setCell ⟨b,11,none⟩ (.bool x)) b k nm A n c d s1 e1 A1 n1 c1 A2 n2 c2 A3 n3 c3 q1 s2 x A4 n4 c4 A5 n5 c5 A6 n6 c6 q2:=
 ⟨⟨set_other h.box.h0 (by omega),set_other h.box.h1 (by omega),set_other h.box.h2 (by omega),set_other h.box.h3 (by omega),set_other h.box.h4 (by omega),set_other h.box.h5 (by omega),set_other h.box.h6 (by omega),set_other h.box.h7 (by omega),set_other h.box.h8 (by omega),set_other h.box.h9 (by omega),set_other h.box.h10 (by omega),set_same h.box.h11,set_other h.box.h12 (by omega),set_other h.box.h13 (by omega),set_other h.box.h14 (by omega),set_other h.box.h15 (by omega),by rw[size_set];exact h.box.lt⟩,fun i=>by rw[World.frozen?_setCell];exact h.fz i⟩
theorem PtV.set12 (h:PtV W b k nm A n c d s1 e1 A1 n1 c1 A2 n2 c2 A3 n3 c3 q1 s2 e2 A4 n4 c4 A5 n5 c5 A6 n6 c6 q2) (X:Option Addr) (y z:Nat):PtV (W.setCell ⟨b,12,none⟩ (.slice X y z)) b k nm A n c d s1 e1 A1 n1 c1 A2 n2 c2 A3 n3 c3 q1 s2 e2 X y z A5 n5 c5 A6 n6 c6 q2:=
 ⟨⟨set_other h.box.h0 (by omega),set_other h.box.h1 (by omega),set_other h.box.h2 (by omega),set_other h.box.h3 (by omega),set_other h.box.h4 (by omega),set_other h.box.h5 (by omega),set_other h.box.h6 (by omega),set_other h.box.h7 (by omega),set_other h.box.h8 (by omega),set_other h.box.h9 (by omega),set_other h.box.h10 (by omega),set_other h.box.h11 (by omega),set_same h.box.h12,set_other h.box.h13 (by omega),set_other h.box.h14 (by omega),set_other h.box.h15 (by omega),by rw[size_set];exact h.box.lt⟩,fun i=>by rw[World.frozen?_setCell];exact h.fz i⟩
theorem PtV.set13 (h:PtV W b k nm A n c d s1 e1 A1 n1 c1 A2 n2 c2 A3 n3 c3 q1 s2 e2 A4 n4 c4 A5 n5 c5 A6 n6 c6 q2) (X:Option Addr) (y z:Nat):PtV (W.setCell ⟨b,13,none⟩ (.slice X y z)) b k nm A n c d s1 e1 A1 n1 c1 A2 n2 c2 A3 n3 c3 q1 s2 e2 A4 n4 c4 X y z A6 n6 c6 q2:=
 ⟨⟨set_other h.box.h0 (by omega),set_other h.box.h1 (by omega),set_other h.box.h2 (by omega),set_other h.box.h3 (by omega),set_other h.box.h4 (by omega),set_other h.box.h5 (by omega),set_other h.box.h6 (by omega),set_other h.box.h7 (by omega),set_other h.box.h8 (by omega),set_other h.box.h9 (by omega),set_other h.box.h10 (by omega),set_other h.box.h11 (by omega),set_other h.box.h12 (by omega),set_same h.box.h13,set_other h.box.h14 (by omega),set_other h.box.h15 (by omega),by rw[size_set];exact h.box.lt⟩,fun i=>by rw[World.frozen?_setCell];exact h.fz i⟩
theorem PtV.set14 (h:PtV W b k nm A n c d s1 e1 A1 n1 c1 A2 n2 c2 A3 n3 c3 q1 s2 e2 A4 n4 c4 A5 n5 c5 A6 n6 c6 q2) (X:Option Addr) (y z:Nat):PtV (W.setCell ⟨b,14,none⟩ (.slice X y z)) b k nm A n c d s1 e1 A1 n1 c1 A2 n2 c2 A3 n3 c3 q1 s2 e2 A4 n4 c4 A5 n5 c5 X y z q2:=
 ⟨⟨set_other h.box.h0 (by omega),set_other h.box.h1 (by omega),set_other h.box.h2 (by omega),set_other h.box.h3 (by omega),set_other h.box.h4 (by omega),set_other h.box.h5 (by omega),set_other h.box.h6 (by omega),set_other h.box.h7 (by omega),set_other h.box.h8 (by omega),set_other h.box.h9 (by omega),set_other h.box.h10 (by omega),set_other h.box.h11 (by omega),set_other h.box.h12 (by omega),set_other h.box.h13 (by omega),set_same h.box.h14,set_other h.box.h15 (by omega),by rw[size_set];exact h.box.lt⟩,fun i=>by rw[World.frozen?_setCell];exact h.fz i⟩
theorem PtV.set15 (h:PtV W b k nm A n c d s1 e1 A1 n1 c1 A2 n2 c2 A3 n3 c3 q1 s2 e2 A4 n4 c4 A5 n5 c5 A6 n6 c6 q2) (x:Int):PtV (W.setCell ⟨b,15,none⟩ (.int .i64 x)) b k nm A n c d s1 e1 A1 n1 c1 A2 n2 c2 A3 n3 c3 q1 s2 e2 A4 n4 c4 A5 n5 c5 A6 n6 c6 x:=
 ⟨⟨set_other h.box.h0 (by omega),set_other h.box.h1 (by omega),set_other h.box.h2 (by omega),set_other h.box.h3 (by omega),set_other h.box.h4 (by omega),set_other h.box.h5 (by omega),set_other h.box.h6 (by omega),set_other h.box.h7 (by omega),set_other h.box.h8 (by omega),set_other h.box.h9 (by omega),set_other h.box.h10 (by omega),set_other h.box.h11 (by omega),set_other h.box.h12 (by omega),set_other h.box.h13 (by omega),set_other h.box.h14 (by omega),set_same h.box.h15,by rw[size_set];exact h.box.lt⟩,fun i=>by rw[World.frozen?_setCell];exact h.fz i⟩
theorem PtV.new (w:World) (k:Int) (nm:ByteArray) (A:Option Addr) (n c:Nat) (d:Int) (s1 e1:Bool) (A1:Option Addr) (n1 c1:Nat) (A2:Option Addr) (n2 c2:Nat) (A3:Option Addr) (n3 c3:Nat) (q1:Int) (s2 e2:Bool) (A4:Option Addr) (n4 c4:Nat) (A5:Option Addr) (n5 c5:Nat) (A6:Option Addr) (n6 c6:Nat) (q2:Int):PtV (w.alloc (.cells #[.int .i64 k,.string nm,.slice A n c,.int .i64 d,.bool s1,.bool e1,.slice A1 n1 c1,.slice A2 n2 c2,.slice A3 n3 c3,.int .i64 q1,.bool s2,.bool e2,.slice A4 n4 c4,.slice A5 n5 c5,.slice A6 n6 c6,.int .i64 q2] 111)) w.heap.size k nm A n c d s1 e1 A1 n1 c1 A2 n2 c2 A3 n3 c3 q1 s2 e2 A4 n4 c4 A5 n5 c5 A6 n6 c6 q2:=⟨PtBox.new w k nm A n c d s1 e1 A1 n1 c1 A2 n2 c2 A3 n3 c3 q1 s2 e2 A4 n4 c4 A5 n5 c5 A6 n6 c6 q2,fun i=>by simp⟩
end
section
variable {w w' : World} {B j base b : Nat} {A1 A2 A3 : Option Addr} {n1 c1 n2 c2 n3 c3 : Nat} {s : Side}
theorem spans_off {A:Option Addr} {n c:Nat} {t:List Sp} (h:SlR rSpan 2 (fun b=>base<=b) w A n c t) (hb:b<base) (o:Nat) (v:Value):SlR rSpan 2 (fun b=>base<=b) (w.setCell ⟨b,o,none⟩ v) A n c t:=h.keep (keep_span _) ((agree_set b o w v).mono fun i hi=>by omega)
end
section
variable {w w' : World} {B j b : Nat} {ok : Nat -> Prop} {A A1 A2 A3 : Option Addr} {n c n1 c1 n2 c2 n3 c3 : Nat} {s : Side} {l : List It}
theorem SdA.mvG (h:SdA ok w A1 n1 c1 A2 n2 c2 A3 n3 c3 s) (m:Mv B j w w') (hk:∀ b,ok b->b≠B):SdA ok w' A1 n1 c1 A2 n2 c2 A3 n3 c3 s:=h.keep (m.agree.mono hk)
theorem SdA.offG (h:SdA ok w A1 n1 c1 A2 n2 c2 A3 n3 c3 s) (hk:∀ i,ok i->i≠b) (o:Nat) (v:Value):SdA ok (w.setCell ⟨b,o,none⟩ v) A1 n1 c1 A2 n2 c2 A3 n3 c3 s:=h.keep ((agree_set b o w v).mono hk)
theorem Its.lt (h:Its ok w A n c l):Its (fun b=>ok b/\b<w.heap.size) w A n c l:=
 (SlR.lt (by omega) h).mono (fun vs x ⟨A',n',c',e,hi⟩=>⟨A',n',c',e,⟨hi.kb,hi.rb,hi.nm,SlR.lt (by omega) hi.set⟩⟩) (fun _ h=>h)
theorem SdA.lt (h:SdA ok w A1 n1 c1 A2 n2 c2 A3 n3 c3 s):SdA (fun b=>ok b/\b<w.heap.size) w A1 n1 c1 A2 n2 c2 A3 n3 c3 s:=⟨h.before.lt,h.source.lt,h.after.lt,h.cb⟩
end
theorem wpList_storeP {ops:Array Oper} {rest:List Oper} {o:Oper} {a:Act} {Q:Exit->Act->World->Prop} {W:World} {b:Nat} {k:Int} {nm:ByteArray} {A:Option Addr} {n c:Nat} {d:Int} {s1 e1:Bool} {A1:Option Addr} {n1 c1:Nat} {A2:Option Addr} {n2 c2:Nat} {A3:Option Addr} {n3 c3:Nat} {q1:Int} {s2 e2:Bool} {A4:Option Addr} {n4 c4:Nat} {A5:Option Addr} {n5 c5:Nat} {A6:Option Addr} {n6 c6:Nat} {q2:Int} {k':Int} {nm':ByteArray} {A':Option Addr} {n' c':Nat} {d':Int} {s1' e1':Bool} {A1':Option Addr} {n1' c1':Nat} {A2':Option Addr} {n2' c2':Nat} {A3':Option Addr} {n3' c3':Nat} {q1':Int} {s2' e2':Bool} {A4':Option Addr} {n4' c4':Nat} {A5':Option Addr} {n5' c5':Nat} {A6':Option Addr} {n6' c6':Nat} {q2':Int}
  (h:PtV W b k nm A n c d s1 e1 A1 n1 c1 A2 n2 c2 A3 n3 c3 q1 s2 e2 A4 n4 c4 A5 n5 c5 A6 n6 c6 q2) (hg:o.guard=none) (x v:Operand) (hop:o.op=Op.store 111 x v) (hx:a.eval x=.pointer (some ⟨b,0,none⟩)) (hv:a.eval v=.agg #[.int .i64 k',.string nm',.slice A' n' c',.int .i64 d',.bool s1',.bool e1',.slice A1' n1' c1',.slice A2' n2' c2',.slice A3' n3' c3',.int .i64 q1',.bool s2',.bool e2',.slice A4' n4' c4',.slice A5' n5' c5',.slice A6' n6' c6',.int .i64 q2'])
  (hK:∀ wF,PtV wF b k' nm' A' n' c' d' s1' e1' A1' n1' c1' A2' n2' c2' A3' n3' c3' q1' s2' e2' A4' n4' c4' A5' n5' c5' A6' n6' c6' q2'->Agree (fun i=>i≠b) W wF->W.heap.size=wF.heap.size->(∀ u:World,u.heap.size<=b->Ext u W->Ext u wF)->wpList Tryz.prog ops Q rest (a.put o.dst undef) wF):wpList Tryz.prog ops Q (o::rest) a W:=by
 refine wpList_plain hg fun K' hK'=>?_;have F:=((((((((((((((((h.set0 k').set1 nm').set2 A' n' c').set3 d').set4 s1').set5 e1').set6 A1' n1' c1').set7 A2' n2' c2').set8 A3' n3' c3').set9 q1').set10 s2').set11 e2').set12 A4' n4' c4').set13 A5' n5' c5').set14 A6' n6' c6').set15 q2')
 obtain⟨⟨t0,t1,t2,t3,t4,t5,t6,t7,t8,t9,t10,t11,t12,t13,t14,t15,tl⟩,tz⟩:=h
 have hrun:(Instr.storeAt 111 (.pointer (some ⟨b,0,none⟩)) (.agg #[.int .i64 k',.string nm',.slice A' n' c',.int .i64 d',.bool s1',.bool e1',.slice A1' n1' c1',.slice A2' n2' c2',.slice A3' n3' c3',.int .i64 q1',.bool s2',.bool e2',.slice A4' n4' c4',.slice A5' n5' c5',.slice A6' n6' c6',.int .i64 q2'])).run Tryz.prog W=.ok () ((((((((((((((((W.setCell ⟨b,0,none⟩ (.int .i64 k')).setCell ⟨b,1,none⟩ (.string nm')).setCell ⟨b,2,none⟩ (.slice A' n' c')).setCell ⟨b,3,none⟩ (.int .i64 d')).setCell ⟨b,4,none⟩ (.bool s1')).setCell ⟨b,5,none⟩ (.bool e1')).setCell ⟨b,6,none⟩ (.slice A1' n1' c1')).setCell ⟨b,7,none⟩ (.slice A2' n2' c2')).setCell ⟨b,8,none⟩ (.slice A3' n3' c3')).setCell ⟨b,9,none⟩ (.int .i64 q1')).setCell ⟨b,10,none⟩ (.bool s2')).setCell ⟨b,11,none⟩ (.bool e2')).setCell ⟨b,12,none⟩ (.slice A4' n4' c4')).setCell ⟨b,13,none⟩ (.slice A5' n5' c5')).setCell ⟨b,14,none⟩ (.slice A6' n6' c6')).setCell ⟨b,15,none⟩ (.int .i64 q2')):=by
  simp[go_sem,t0,t1,t2,t3,t4,t5,t6,t7,t8,t9,t10,t11,t12,t13,t14,t15,tl,tz]
 unfold Oper.wp;simp[execOp,hop,hx,hv,hrun,Result.andThen];refine hK' _ _ (hK _ F (fun i hi hlt=>?_) ?_ (fun u hu e=>?_))
 ·simp only[heap_setB hi]
 ·simp only[size_set]
 ·exact ((((((((((((((((e.setCell (p:=⟨b,0,none⟩) hu _).setCell (p:=⟨b,1,none⟩) hu _).setCell (p:=⟨b,2,none⟩) hu _).setCell (p:=⟨b,3,none⟩) hu _).setCell (p:=⟨b,4,none⟩) hu _).setCell (p:=⟨b,5,none⟩) hu _).setCell (p:=⟨b,6,none⟩) hu _).setCell (p:=⟨b,7,none⟩) hu _).setCell (p:=⟨b,8,none⟩) hu _).setCell (p:=⟨b,9,none⟩) hu _).setCell (p:=⟨b,10,none⟩) hu _).setCell (p:=⟨b,11,none⟩) hu _).setCell (p:=⟨b,12,none⟩) hu _).setCell (p:=⟨b,13,none⟩) hu _).setCell (p:=⟨b,14,none⟩) hu _).setCell (p:=⟨b,15,none⟩) hu _)
theorem sd0 (ok:Nat->Prop) (W:World):SdA ok W none 0 0 none 0 0 none 0 0 side0:=⟨SlR.nil _ _ _ _ _ _ (by unfold maxLen;omega),SlR.nil _ _ _ _ _ _ (by unfold maxLen;omega),SlR.nil _ _ _ _ _ _ (by unfold maxLen;omega),ik0⟩
def rPart (base:Nat):Part->World->Value->Prop:=fun p W v=>
 ∃ A n c A1 n1 c1 A2 n2 c2 A3 n3 c3 A4 n4 c4 A5 n5 c5 A6 n6 c6,v=.agg #[.int .i64 p.kind,.string p.name,.slice A n c,.int .i64 p.dir,.bool p.left.st,.bool p.left.en,.slice A1 n1 c1,.slice A2 n2 c2,.slice A3 n3 c3,.int .i64 p.left.cursor,.bool p.right.st,.bool p.right.en,.slice A4 n4 c4,.slice A5 n5 c5,.slice A6 n6 c6,.int .i64 p.right.cursor] /\
  PtA (fun b=>base<=b) W A n c p/\SdA (fun b=>base<=b) W A1 n1 c1 A2 n2 c2 A3 n3 c3 p.left/\SdA (fun b=>base<=b) W A4 n4 c4 A5 n5 c5 A6 n6 c6 p.right
theorem needF_pos {L:List Int} {r:Int} {k k1:Nat} {u:Unit} (h:needF L r k=.ok u k1):k1=k+1:=by
 unfold needF at h;split at h
 ·cases h;rfl
 ·cases h
theorem arrowF_i64 {L:List Int} {k k1:Nat} {d:Int} (h:arrowF L k=.ok d k1):i64 d:=by
 unfold arrowF at h;split at h
 ·cases h;exact ik1
 split at h
 ·cases h;exact ik3
 obtain⟨_,_,_,h⟩:=PR.bind_ok h;cases h;exact ik2
end Go.Proofs.YthomjcjnalfipaaGreatDoor
namespace Go.Proofs.YthomjcjnalfipaaGreatDoor
def NZ {α :Type} (x:PR α):Prop:=∀ e p,x=.fail e p->e≠0
theorem NZ.ok {α :Type} {a: α} {k:Nat}:NZ (.ok a k:PR α):=fun e p h=>by cases h
theorem NZ.fail {α :Type} {e:Int} {p:Nat} (he:e≠0):NZ (.fail e p:PR α):=fun e p h=>by cases h;exact he
theorem NZ.bind {α β :Type} {x:PR α} {f: α ->Nat->PR β} (h:NZ x) (g:∀ a j,x=.ok a j->NZ (f a j)):NZ (x.bind f):=by
 cases x with
 | ok a j=>exact g a j rfl
 | fail e p=>exact fun e' p' h'=>h e' p' (by cases h';rfl)
theorem NZ.ite {α :Type} {p:Prop} [Decidable p] {x y:PR α} (h1:p->NZ x) (h2:¬ p->NZ y):NZ (if p then x else y):=by
 split
 ·exact h1 ‹_›
 ·exact h2 ‹_›
theorem Adv.get {α :Type} {L:List Int} {k m k1:Nat} {x:PR α} {a: α} (h:Adv L k m x) (e:x=.ok a k1):k+m<=k1/\k1<=L.length:=h a k1 e
section
variable {L : List Int} {k : Nat}
theorem needF_nz {r:Int}:NZ (needF L r k):=NZ.ite (fun _=>NZ.ok) (fun _=>NZ.fail (by omega))
theorem hexF_nz:NZ (hexF L k):=by
 unfold hexF;exact NZ.ite (fun _=>NZ.fail (by omega)) (fun _=>NZ.ite (fun _=>NZ.fail (by omega)) (fun _=>NZ.ite (fun _=>NZ.fail (by omega)) (fun _=>NZ.ite (fun _=>NZ.fail (by omega)) (fun _=>NZ.ok))))
theorem charF_nz:NZ (charF L k):=by
 unfold charF;exact NZ.ite (fun _=>NZ.ok) (fun _=>NZ.ite (fun _=>NZ.fail (by omega)) (fun _=>NZ.ite (fun _=>NZ.ok) (fun _=>NZ.ite (fun _=>NZ.ok) (fun _=>NZ.ite (fun _=>hexF_nz) (fun _=>NZ.ite (fun _=>NZ.fail (by omega)) (fun _=>NZ.ok))))))
theorem spanF_nz:NZ (spanF L k):=by
 unfold spanF;exact charF_nz.bind fun _ _ _=>NZ.ite (fun _=>charF_nz.bind fun _ _ _=>NZ.ite (fun _=>NZ.fail (by omega)) (fun _=>NZ.ok)) (fun _=>NZ.ok)
theorem keepF_nz {o:List Sp×Int}:NZ (keepF o k):=NZ.ite (fun h=>NZ.fail h) (fun _=>NZ.ok)
theorem classF_nz:NZ (classF L k):=by
 unfold classF;dsimp only;split
 ·exact NZ.fail (by omega)
 ·exact needF_nz.bind fun _ _ _=>needF_nz.bind fun _ _ _=>NZ.ok
theorem opF_nz {S:Nat->PR (List Sp)} (hS:∀ k,NZ (S k)) {cur:List Sp}:NZ (opF L S cur k):=by
 unfold opF;exact NZ.ite (fun _=>classF_nz.bind fun _ _ _=>keepF_nz) (fun _=>NZ.ite (fun _=>(hS _).bind fun _ _ _=>keepF_nz) (fun _=>NZ.ite (fun _=>(hS _).bind fun _ _ _=>keepF_nz) (fun _=>NZ.ite (fun _=>(hS _).bind fun _ _ _=>keepF_nz) (fun _=>spanF_nz.bind fun _ _ _=>keepF_nz))))
theorem opsF_nz {S:Nat->PR (List Sp)} (hS:∀ k,NZ (S k)) (hA:∀ k,Adv L k 1 (S k)):∀ (f:Nat) (cur:List Sp) (k:Nat),k<=L.length->L.length<f+k->NZ (opsF L S f cur k)
 | 0,_,_,h1,h2=>by omega
 | f+1,cur,k,h1,h2=>by
  unfold opsF;refine NZ.ite (fun _=>NZ.ok) (fun _=>(opF_nz hS).bind fun a j e=>?_);have h:=(opF_adv hA).get e;have:j<=skipF L j:=skipF_ge;exact opsF_nz hS hA f a _ (skipF_le h.2) (by omega)
theorem setF_nz:∀ (n k:Nat),NZ (setF L n k)
 | 0,k=>by unfold setF;exact NZ.ite (fun _=>NZ.fail (by omega)) (fun _=>NZ.fail (by omega))
 | n+1,k=>by
  unfold setF;refine NZ.ite (fun _=>NZ.fail (by omega)) (fun h=>?_);have hk:=look_lt' (L:=L) (k:=k) (x:=91) (by simpa using h) (by omega);refine NZ.ite (fun h2=>?_) (fun _=>?_)
  ·have hk2:=look_lt' h2 (by omega);exact (opsF_nz (setF_nz n) (setF_adv n) _ _ _ (skipF_le (by omega)) (by omega)).bind fun _ _ _=>keepF_nz
  ·exact opsF_nz (setF_nz n) (setF_adv n) _ _ _ (skipF_le (by omega)) (by omega)
theorem nameF_nz:NZ (nameF L k):=NZ.ite (fun _=>NZ.ok) (fun _=>NZ.fail (by omega))
theorem quotedF_nz:∀ (f:Nat) (out:List It) (k:Nat),k<=L.length->L.length<f+k->NZ (quotedF L f out k)
 | 0,_,_,h1,h2=>by omega
 | f+1,out,k,h1,h2=>by
  unfold quotedF;refine NZ.ite (fun _=>NZ.ok) (fun _=>NZ.ite (fun _=>NZ.fail (by omega)) (fun h=>?_));have:=look_lt0 (L:=L) (k:=k) (by omega);exact quotedF_nz f _ (k+1) (by omega) (by omega)
theorem itemF_nz {out:List It} {cur:Int}:NZ (itemF L out cur k):=by
 unfold itemF;refine NZ.ite (fun _=>NZ.ite (fun _=>NZ.fail (by omega)) (fun _=>NZ.ok)) (fun _=>NZ.ite (fun _=>(setF_nz _ _).bind fun _ _ _=>NZ.ok) (fun _=>NZ.ite (fun _=>nameF_nz.bind fun _ _ _=>NZ.ok) (fun _=>NZ.ite (fun h=>?_) (fun _=>charF_nz.bind fun _ _ _=>NZ.ite (fun _=>NZ.ok) (fun _=>NZ.fail (by omega))))));have hk:=look_lt' h (by omega);exact (quotedF_nz _ _ _ (by omega) (by omega)).bind fun _ _ _=>NZ.ok
theorem itemsN_nz:∀ (f:Nat) (out:List It) (cur:Int) (k:Nat),k<=L.length->L.length<f+k->NZ (itemsN L f out cur k)
 | 0,_,_,_,h1,h2=>by omega
 | f+1,out,cur,k,h1,h2=>by
  unfold itemsN;refine NZ.ite (fun _=>itemF_nz.bind fun a j e=>NZ.ite (fun _=>NZ.fail (by omega)) (fun _=>?_)) (fun _=>NZ.ok);have h:=(itemF_adv).get e;have:j<=spaceF L j:=spaceF_ge;exact itemsN_nz f _ _ _ (spaceF_le h.2) (by omega)
theorem itemsF_nz (h:k<=L.length):NZ (itemsF L k):=itemsN_nz _ _ _ _ (spaceF_le h) (by omega)
theorem restF_nz {st:Bool} {b:List It} {o:List It×Int} (h:k<=L.length):NZ (restF L st b o k):=by
 unfold restF;refine NZ.ite (fun h1=>?_) (fun _=>NZ.ok);have:=look_lt' h1 (by omega);exact (itemsF_nz (by omega)).bind fun _ _ _=>NZ.ite (fun _=>NZ.fail (by omega)) (fun _=>NZ.ite (fun _=>NZ.ok) (fun _=>NZ.ok))
theorem sideFrom_nz {st:Bool} (h:k<=L.length):NZ (sideFrom L st k):=by
 unfold sideFrom;refine (itemsF_nz h).bind fun o j e=>?_;have hj:=(itemsF_adv h).get e;refine NZ.ite (fun h1=>NZ.ite (fun _=>NZ.fail (by omega)) (fun _=>?_)) (fun _=>NZ.ite (fun _=>NZ.fail (by omega)) (fun _=>restF_nz hj.2));have h2:=look_lt' h1 (by omega);refine (itemsF_nz (by omega)).bind fun q j2 e2=>restF_nz ?_;exact ((itemsF_adv (by omega)).get e2).2
theorem sideF_nz (h:k<=L.length):NZ (sideF L k):=by
 unfold sideF;refine NZ.ite (fun h1=>?_) (fun _=>sideFrom_nz (spaceF_le h));have:=look_lt' h1 (by omega);exact sideFrom_nz (by omega)
theorem arrowF_nz:NZ (arrowF L k):=NZ.ite (fun _=>NZ.ok) (fun _=>NZ.ite (fun _=>NZ.ok) (fun _=>needF_nz.bind fun _ _ _=>NZ.ok))
theorem rulePF_nz (h:k<=L.length):NZ (rulePF L k):=by
 unfold rulePF;refine (sideF_nz h).bind fun a k1 e=>arrowF_nz.bind fun d k2 e2=>?_;have h2:=arrowF_adv.get e2;exact (sideF_nz h2.2).bind fun b k3 _=>NZ.ite (fun hz=>NZ.fail hz) (fun _=>NZ.ok)
theorem partF_nz (h:k<=L.length):NZ (partF L k):=by
 unfold partF;refine NZ.ite (fun _=>needF_nz.bind fun _ _ _=>NZ.ite (fun _=>(setF_nz _ _).bind fun _ _ _=>NZ.ok) (fun _=>NZ.ite (fun _=>NZ.ok) (fun _=>NZ.fail (by omega)))) (fun _=>NZ.ite (fun _=>?_) (fun _=>rulePF_nz h));exact nameF_nz.bind fun _ _ _=>needF_nz.bind fun _ _ _=>(setF_nz _ _).bind fun _ _ _=>NZ.ok
theorem readN_nz:∀ (f:Nat) (out:List Part) (k:Nat),k<=L.length->L.length<f+k->NZ (readN L f out k)
 | 0,_,_,h1,h2=>by omega
 | f+1,out,k,h1,h2=>by
  unfold readN;refine NZ.ite (fun _=>NZ.ok) (fun _=>NZ.ite (fun _=>NZ.fail (by omega)) (fun _=>(partF_nz h1).bind fun p k1 e=>needF_nz.bind fun u k2 e2=>?_));have a1:=(partF_adv h1).get e;have a2:=(needF_adv (by omega)).get e2;have a3:k1<=spaceF L k1:=spaceF_ge;have a4:k2<=spaceF L k2:=spaceF_ge;exact readN_nz f _ _ (spaceF_le a2.2) (by omega)
end
theorem readF_nz (L:List Int):NZ (readF L):=by
 unfold readF;refine NZ.ite (fun _=>NZ.fail (by omega)) (fun _=>readN_nz _ _ _ (spaceF_le (by omega)) (by omega))
def resR (x:PR (List Part)):List Part×Int×Int:=match x with
 | .ok l _=>(l,0,0)
 | .fail e p=>([],e,p)
def readR (L:List Int):List Part×Int×Int:=resR (readF L)
end Go.Proofs.YthomjcjnalfipaaGreatDoor
namespace Go.Proofs.YthomjcjnalfipaaGreatDoor
open Go.RowKit
theorem caught_idle (p:Addr) (w:World) :
  CallsD Tryz.prog 43 #[.pointer (some p)] .returning w fun e u' w'=>e=.returned (.tuple #[])/\u'=.returning/\w'=w:=by
 refine callsD_of_wpS Tryz.func43 rfl fun c₀ cs hu=>?_;have hnil:∀ w:World,(binOp BinOp.eql 20 .nilIface .nilIface).run Tryz.prog w=.ok (.bool true) w:=fun _=>by kernel_rfl
 rw[show (#[Value.pointer (some p)]++Array.replicate (Tryz.f43.ntmps-#[Value.pointer (some p)].size) undef)=#[.pointer (some p),undef,undef,undef,undef,undef,undef,undef,undef,undef,undef,undef,undef,undef,undef] from by rw[Tryz.ntmps43];rfl];apply wpS_seq;apply wpS_region;simp[wpOpsS,go_sem,recoverD,hu,Tryz.ntmps43,Exit.thenS];refine wpS_of_wp ?_;go_wp2;cases c₀
 simp_all [bodyPostS,results,Tryz.results43]
theorem caught_panicking (b:Nat) (er p x y:Int) (older:List PanicEntry) (w:World) (h0:w.cell? ⟨b,0,none⟩=some (.int .i64 x)) (h1:w.cell? ⟨b,1,none⟩=some (.int .i64 y)) (hz:∀ i,w.frozen? ⟨b,i,none⟩=false) (hb:b<w.heap.size/\b≠w.heap.size) :
  CallsD Tryz.prog 43 #[.pointer (some ⟨b,0,none⟩)] (.panicking ({ v:=.iface 142 (.agg #[.int .i64 er,.int .i64 p]),recovered:=false }::older)) w fun e u' w'=>
   e=.returned (.tuple #[])/\u'=.panicking ({ v:=.iface 142 (.agg #[.int .i64 er,.int .i64 p]),recovered:=true }::older)/\w'=((w.setCell ⟨b,0,none⟩ (.int .i64 er)).setCell ⟨b,1,none⟩ (.int .i64 p)).alloc (.cells #[.int .i64 er,.int .i64 p] 142):=by
 refine callsD_of_wpS Tryz.func43 rfl fun c₀ cs hu=>?_;rw[show (#[Value.pointer (some ⟨b,0,none⟩)]++Array.replicate (Tryz.f43.ntmps-#[Value.pointer (some ⟨b,0,none⟩)].size) undef)=#[.pointer (some ⟨b,0,none⟩),undef,undef,undef,undef,undef,undef,undef,undef,undef,undef,undef,undef,undef,undef] from by rw[Tryz.ntmps43];rfl];apply wpS_seq;apply wpS_region;simp[wpOpsS,go_sem,recoverD,hu,Tryz.ntmps43,Exit.thenS];have hta:∀ w:World,(Instr.typeAssert (.iface 142 (.agg #[.int .i64 er,.int .i64 p])) 20 142 true).run Tryz.prog w=.ok (.tuple #[.agg #[.int .i64 er,.int .i64 p],.bool true]) w:=fun _=>by kernel_rfl
 refine wpS_of_wp ?_;go_wp2;simp[bodyPostS,results,Tryz.results43]
theorem read1_ok (fb lb:Nat) (u:FrameMode) (w:World) (h0:w.cell? ⟨fb,0,none⟩=some (.int .i64 0)) :
  CallsD Tryz.prog 42 #[.pointer (some ⟨fb,0,none⟩),.pointer (some ⟨lb,0,none⟩)] u w fun e u' w'=>u'=u/\(e=.returned (.tuple #[])/\w'=w):=by
 go_enter_d Tryz.func42,Tryz.ntmps42;go_wp2;go_end0;exact⟨rfl,rfl⟩
theorem read1_bad (fb lb:Nat) (er:Int) (v:Value) (u:FrameMode) (w:World) (h0:w.cell? ⟨fb,0,none⟩=some (.int .i64 er)) (he:er≠0) (h1:w.cell? ⟨lb,0,none⟩=some v) (hz:∀ i,w.frozen? ⟨lb,i,none⟩=false) :
  CallsD Tryz.prog 42 #[.pointer (some ⟨fb,0,none⟩),.pointer (some ⟨lb,0,none⟩)] u w fun e u' w'=>u'=u/\(e=.returned (.tuple #[])/\w'=w.setCell ⟨lb,0,none⟩ (.slice none 0 0)):=by
 have g:(er != 0)=true:=by simpa using he
 go_enter_d Tryz.func42,Tryz.ntmps42;go_wp2;go_end0;exact⟨rfl,rfl⟩
end Go.Proofs.YthomjcjnalfipaaGreatDoor
