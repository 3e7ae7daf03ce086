/- Lemmas. -/
import Derived.Test.YtmmhehgajkaniaaGreatDoorZ24
namespace Go.Proofs.YtmmhehgajkaniaaGreatDoor
open Go.RowKit Go.Shelf
def EqRow (w:World) (g n:Nat) (f:Nat→Option Rat) (K:Nat):Prop:=∃es:List E4,es.length=n∧Blk w g 193 (es.flatMap E4.cells).toArray∧∀j (hj:j<es.length) q,f j=some q→ExqAt w w.heap.size es[j].val q K
section
variable {w w':World} {g n:Nat} {f:Nat→Option Rat} {K:Nat}
theorem EqRow.blk (h:EqRow w g n f K):∃cs,Blk w g 193 cs:=by
 obtain⟨es,-,h,-⟩:=h;exact⟨_,h⟩
theorem EqRow.lt (h:EqRow w g n f K):g<w.heap.size:=by
 obtain⟨cs,h⟩:=h.blk;exact h.lt
theorem EqRow.frozen (h:EqRow w g n f K) (i:Nat):w.frozen? ⟨g,i,none⟩=false:=by
 obtain⟨cs,h⟩:=h.blk;exact h.frozen i
theorem EqRow.grow (h:EqRow w g n f K) (hb:Below w.heap.size w w'):EqRow w' g n f K:=by
 obtain⟨es,h1,h2,h3⟩:=h;exact⟨es,h1,h2.below hb h2.lt,fun j hj q hq=>(h3 j hj q hq).grow hb⟩
theorem EqRow.read (h:EqRow w g n f K) {i:Nat} (hi:i<n):∃b1 A1 l1 c1 b2 A2 l2 c2,w.cell? ⟨g,i*4,none⟩=some (.bool b1)∧w.cell? ⟨g,i*4+1,none⟩=some (.slice A1 l1 c1)∧w.cell? ⟨g,i*4+2,none⟩=some (.bool b2)∧w.cell? ⟨g,i*4+3,none⟩=some (.slice A2 l2 c2) ∧
  ∀q,f i=some q→ExqAt w w.heap.size (.agg (zD b1 A1 l1 c1 b2 A2 l2 c2)) q K:=by
 obtain⟨es,rfl,h2,h3⟩:=h;have k:=fun (m:Nat) (hm:m<4)=>(h2.cell (i*4+m)).trans ((List.getElem?_toArray ..).trans (yo es i m hi hm));exact⟨_,_,_,_,_,_,_,_,k 0 (by decide),k 1 (by decide),k 2 (by decide),k 3 (by decide),fun q hq=>h3 i hi q hq⟩
theorem DgTo.set4 {B D o:Nat} {v:Value} {x k:Nat} (h:DgTo w B v x k) {u0 u1 u2 u3:Value} (k0:w.cell? ⟨D,o,none⟩=some u0) (k1:w.cell? ⟨D,o+1,none⟩=some u1) (k2:w.cell? ⟨D,o+2,none⟩=some u2) (k3:w.cell? ⟨D,o+3,none⟩=some u3) (n0:∀z,u0 ≠ .int .i64 z) (n1:∀z,u1 ≠ .int .i64 z) (n2:∀z,u2 ≠ .int .i64 z) (n3:∀z,u3 ≠ .int .i64 z) (x0 x1 x2 x3:Value) :
  DgTo ((((w.setCell ⟨D,o,none⟩ x0).setCell ⟨D,o+1,none⟩ x1).setCell ⟨D,o+2,none⟩ x2).setCell ⟨D,o+3,none⟩ x3) B v x k:=by
 have ne:∀ {W:World} {a b:Nat} {y:Value},a≠b→(W.setCell ⟨D,b,none⟩ y).cell? ⟨D,a,none⟩=W.cell? ⟨D,a,none⟩:=fun {W a b y} hab=>by
  rw[World.cell?_setCell_other];intro e;injection e with _ e _;exact hab e.symm
 have g1:=DgTo.set h k0 n0 x0;have g2:=DgTo.set g1 ((ne (by omega)).trans k1) n1 x1;have g3:=DgTo.set g2 ((ne (by omega)).trans ((ne (by omega)).trans k2)) n2 x2;exact DgTo.set g3 ((ne (by omega)).trans ((ne (by omega)).trans ((ne (by omega)).trans k3))) n3 x3
theorem ExqAt.row {v:Value} {q:Rat} {K':Nat} (h:ExqAt w w.heap.size v q K') {es:List E4} (hD:Blk w g 193 (es.flatMap E4.cells).toArray) {i:Nat} (hi:i<es.length) (x0 x1 x2 x3:Value) :
  ExqAt ((((w.setCell ⟨g,i*4,none⟩ x0).setCell ⟨g,i*4+1,none⟩ x1).setCell ⟨g,i*4+2,none⟩ x2).setCell ⟨g,i*4+3,none⟩ x3) ((((w.setCell ⟨g,i*4,none⟩ x0).setCell ⟨g,i*4+1,none⟩ x1).setCell ⟨g,i*4+2,none⟩ x2).setCell ⟨g,i*4+3,none⟩ x3).heap.size v q K':=by
 have k:=fun (m:Nat) (hm:m<4)=>(hD.cell (i*4+m)).trans ((List.getElem?_toArray ..).trans (yo es i m hi hm));obtain⟨_,_,_,_,N,E,e,h4,h5,h6⟩:=h;have hU:=fun {v:Value} {x m:Nat} (h:DgTo w w.heap.size v x m)=>DgTo.mono (DgTo.set4 h (k 0 (by decide)) (k 1 (by decide)) (k 2 (by decide)) (k 3 (by decide)) (fun z=>by simp) (fun z=>by simp) (fun z=>by simp) (fun z=>by simp) x0 x1 x2 x3) (show w.heap.size≤((((w.setCell ⟨g,i*4,none⟩ x0).setCell ⟨g,i*4+1,none⟩ x1).setCell ⟨g,i*4+2,none⟩ x2).setCell ⟨g,i*4+3,none⟩ x3).heap.size by simp[World.setCell])
 exact⟨_,_,_,_,N,E,e,⟨h4.1,hU h4.2⟩,⟨h5.1,hU h5.2⟩,h6⟩
theorem EqRow.write (h:EqRow w g n f K) {i:Nat} (hi:i<n) {b1:Bool} {A1:Option Addr} {l1 c1:Nat} {b2:Bool} {A2:Option Addr} {l2 c2:Nat} {q:Rat} (hE:ExqAt w w.heap.size (.agg (zD b1 A1 l1 c1 b2 A2 l2 c2)) q K) :
  EqRow ((((w.setCell ⟨g,i*4,none⟩ (.bool b1)).setCell ⟨g,i*4+1,none⟩ (.slice A1 l1 c1)).setCell ⟨g,i*4+2,none⟩ (.bool b2)).setCell ⟨g,i*4+3,none⟩ (.slice A2 l2 c2)) g n (eh f i q) K:=by
 obtain⟨es,rfl,h2,h3⟩:=h;refine⟨es.set i ⟨b1,A1,l1,c1,b2,A2,l2,c2⟩,by simp,?_,fun j hj q' hq=>?_⟩
 ·have:=(((h2.set_ (i*4) (.bool b1)).set_ (i*4+1) (.slice A1 l1 c1)).set_ (i*4+2) (.bool b2)).set_ (i*4+3) (.slice A2 l2 c2);rw[V7 es i _ hi];simpa using this
 have hj':j<es.length:=by simpa using hj
 unfold eh at hq;by_cases e:j=i
 ·subst e;rw[if_pos rfl] at hq;injection hq with hq;subst hq;simp only[List.getElem_set_self];exact hE.row h2 hi _ _ _ _
 rw[if_neg e] at hq;rw[List.getElem_set_ne (fun e'=>e e'.symm)];exact (h3 j hj' q' hq).row h2 hi _ _ _ _
theorem EqRow.weak (h:EqRow w g n f K) {f':Nat→Option Rat} (hf:∀j q,j<n→f' j=some q→f j=some q):EqRow w g n f' K:=by
 obtain⟨es,h1,h2,h3⟩:=h;exact⟨es,h1,h2,fun j hj q hq=>h3 j hj q (hf j q (by omega) hq)⟩
end
theorem EqRow.made {w:World} {n:Nat} {B g K:Nat} (h:w.ownsRow B 193 4 (.slice (some ⟨g,0,none⟩) n n) n (madeCells (Value.cells (.agg (zD false none 0 0 false none 0 0))) (n*4)).toList):EqRow w g n (fun _=>none) K:=by
 rcases h.2 with⟨h',_⟩|⟨g2,cap,cur,h',_,h3,_,_,hs,ht⟩
 ·cases h'
 injection h' with h4 _ h5;injection h4 with h4;injection h4 with h4 _ _;subst h4 h5;rw[List.take_of_length_le (by rw[Array.length_toList,hs];exact yA _),LQ] at ht;refine⟨List.replicate n ⟨false,none,0,0,false,none,0,0⟩,by simp,?_,fun j hj q hq=>by cases hq⟩;unfold Blk;rw[h3,←ht]
def zJ (B:Nat) (v:Value) (w:World):Prop:=∃g,v=.pointer (some ⟨g,0,none⟩)∧B≤g∧Blk w g 193 #[.bool false,.slice none 0 0,.bool false,.slice none 0 0]
def gAq (B:Nat):GPost:=⟨fun v=>∃g,v=.pointer (some ⟨g,0,none⟩),zJ B,⟨_,0,rfl⟩,fun _ _ _ hb h=>by
 obtain⟨g,h1,h2,h3⟩:=h;exact⟨g,h1,h2,h3.below hb h3.lt⟩,true⟩
theorem vO {P:Program} {o:Oper} {a:Act} {w:World} {B:Nat} (hB:B≤w.heap.size) (h:(execOp a.eval o).run P w=.ok (.value (.pointer (some ⟨w.heap.size,0,none⟩))) (w.alloc (.cells (zD false none 0 0 false none 0 0) 193))):kX P o a (gAq B) w :=
 ⟨_,_,h,(yB _ _).alloc (yA _) _,⟨_,rfl⟩,⟨_,rfl,hB,Blk.new _ _ _⟩,fun _=>⟨w.heap.size,rfl,yA _,by simp⟩⟩
theorem EqBox.more {w:World} {D:Nat} {q:Rat} {K K':Nat} (h:EqBox w D q K) (hK:K≤K'):EqBox w D q K':=by
 obtain⟨b1,A1,l1,c1,b2,A2,l2,c2,h1,h2⟩:=h;exact⟨b1,A1,l1,c1,b2,A2,l2,c2,h1,h2.more hK⟩
theorem EqBox.first {w:World} {D:Nat} {q:Rat} {K:Nat} (hD:Blk w D 193 (zD false none 0 0 false none 0 0)) {b1:Bool} {A1:Option Addr} {l1 c1:Nat} {b2:Bool} {A2:Option Addr} {l2 c2:Nat} (hE:ExqAt w w.heap.size (.agg (zD b1 A1 l1 c1 b2 A2 l2 c2)) q K) :
  EqBox ((((w.setCell ⟨D,0,none⟩ (.bool b1)).setCell ⟨D,1,none⟩ (.slice A1 l1 c1)).setCell ⟨D,2,none⟩ (.bool b2)).setCell ⟨D,3,none⟩ (.slice A2 l2 c2)) D q K:=by
 obtain⟨_,_,_,_,N,E,e,h4,h5,h6⟩:=hE;cases e;have z0:=hD.cell 0;have z1:=(hD.set_ 0 (.bool b1)).cell 1;have z2:=((hD.set_ 0 (.bool b1)).set_ 1 (.slice A1 l1 c1)).cell 2;have z3:=(((hD.set_ 0 (.bool b1)).set_ 1 (.slice A1 l1 c1)).set_ 2 (.bool b2)).cell 3;simp only[aG,aD] at z0;have hU:∀ {v:Value} {x k:Nat},DgTo w w.heap.size v x k→DgTo ((((w.setCell ⟨D,0,none⟩ (.bool b1)).setCell ⟨D,1,none⟩ (.slice A1 l1 c1)).setCell ⟨D,2,none⟩ (.bool b2)).setCell ⟨D,3,none⟩ (.slice A2 l2 c2)) ((((w.setCell ⟨D,0,none⟩ (.bool b1)).setCell ⟨D,1,none⟩ (.slice A1 l1 c1)).setCell ⟨D,2,none⟩ (.bool b2)).setCell ⟨D,3,none⟩ (.slice A2 l2 c2)).heap.size v x k:=fun h=>by
  have g1:=DgTo.set h z0 (fun z=>by simp) (.bool b1);have g2:=DgTo.set g1 (u:=.slice none 0 0) z1 (fun z=>by simp) (.slice A1 l1 c1);have g3:=DgTo.set g2 (u:=.bool false) z2 (fun z=>by simp) (.bool b2);have g4:=DgTo.set g3 (u:=.slice none 0 0) z3 (fun z=>by simp) (.slice A2 l2 c2);exact DgTo.mono g4 (by simp[World.setCell])
 exact⟨_,_,_,_,_,_,_,_,(((hD.set_ 0 (.bool b1)).set_ 1 (.slice A1 l1 c1)).set_ 2 (.bool b2)).set_ 3 (.slice A2 l2 c2),_,_,_,_,N,E,rfl,⟨h4.1,hU h4.2⟩,⟨h5.1,hU h5.2⟩,h6⟩
theorem TS (b:BeamT):Zx b 0=bu b:=if_pos rfl
theorem TV {b:BeamT} (hb:BeamOk b) (ht:bN b=true):Zx b (b.sup.length-1)=bu (al b):=by
 have h1:=hb.sup1;unfold Zx;by_cases h:b.sup.length=1
 ·rw[if_pos (by omega)];unfold bN at ht;rw[if_pos h] at ht
  have:=yG ht;grind
 rw[if_neg (by omega),show b.sup.length-1-(b.sup.length-1)=0 by omega];rfl
theorem Gq {b:BeamT} (hb:BeamOk b) {i:Nat} (h0:1≤i) (hi:i+1<b.sup.length):0<bK b i:=by
 have h1:=CX hb i h0 hi;have h2:=pH (iW hb (i:=i+1) (by omega) hi).1;have h3:(0:Rat)<1:=by decide
 grind
theorem sC {b:BeamT} (hb:BeamOk b):∀i,1≤i→i+1<b.sup.length→bK b i≠0:=fun i h0 hi=>by
 have:=Gq hb h0 hi;grind
theorem TU {b:BeamT} (hb:BeamOk b) {i:Nat} (h1:1≤i) (h2:i+1<b.sup.length):(jA b i).1-(jA b i).2*Zx b (i+1)=Zx b i:=by
 have h:=KR b (sC hb) (b.sup.length-1-(i+1)) (by omega);have h':=KR b (sC hb) (b.sup.length-1-(i+1)+1) (by omega);unfold Zx;rw[if_neg (by omega),if_neg (by omega),show b.sup.length-1-i=b.sup.length-1-(i+1)+1 by omega,←h,←h',ZM,show b.sup.length-2-(b.sup.length-1-(i+1))=i by omega]
theorem LO {b:BeamT} (hb:BeamOk b) {i:Nat} (hi:i+2<b.sup.length):0<qB b (jA b i).2 (i+1):=by
 rw[(LH b (sC hb) i hi).1];exact Gq hb (by omega) (by omega)
theorem rG (k:Int):Zu 1 [k]=(k:Rat):=by
 unfold Zu;rw[show du [k]=k by simp[du],Rat.divInt_eq_div,Rat.intCast_one];grind
theorem N9 (k m:Int):Zu 1 [k,m]=((k*m:Int):Rat):=by
 unfold Zu;rw[AY,Rat.divInt_eq_div,Rat.intCast_one];grind
theorem qqg (b:BeamT) (k:Nat):(0:Rat)-(cH b (ah b k) (ah b (k+1)) true+cH b (ah b (k+1)) (ah b (k+2)) false)=ki b (k+1):=by
 show _=((0:Int):Rat)-cH b (ah b k) (ah b (k+1)) true-cH b (ah b (k+1)) (ah b (k+2)) false;generalize cH b (ah b k) (ah b (k+1)) true=x;generalize cH b (ah b (k+1)) (ah b (k+2)) false=y;grind
theorem qvX (b:BeamT) (k:Nat):(ki b (k+1)-Zu 1 [aX b (k+1)]*(jA b k).1)/qB b (jA b k).2 (k+1)=(jA b (k+1)).1:=by
 rw[rG];rfl
theorem qvW (b:BeamT) (k:Nat):Zu 1 [aX b (k+2)]/qB b (jA b k).2 (k+1)=(jA b (k+1)).2:=by
 rw[rG];rfl
def uZ (b:BeamT) (m:Nat):Nat→Option Rat:=fun j=>if j=0∨b.sup.length≤j+1+m then some (Zx b j) else none
def pF (b:BeamT) (k:Nat):Nat→Option Rat:=fun j=>if j≤k then some (jA b j).1 else none
def qF (b:BeamT) (k:Nat):Nat→Option Rat:=fun j=>if j≤k then some (jA b j).2 else none
section
variable {w w':World} {g n:Nat} {f:Nat→Option Rat} {K:Nat}
def rj (w:World) (D o:Nat):Prop:=∃b1 A1 l1 c1 b2 A2 l2 c2,w.cell? ⟨D,o,none⟩=some (.bool b1)∧w.cell? ⟨D,o+1,none⟩=some (.slice A1 l1 c1)∧w.cell? ⟨D,o+2,none⟩=some (.bool b2)∧w.cell? ⟨D,o+3,none⟩=some (.slice A2 l2 c2)
theorem DgTo.kind {B D o:Nat} {v:Value} {x k:Nat} (h:DgTo w B v x k) (hk:rj w D o) (x0 x1 x2 x3:Value):DgTo ((((w.setCell ⟨D,o,none⟩ x0).setCell ⟨D,o+1,none⟩ x1).setCell ⟨D,o+2,none⟩ x2).setCell ⟨D,o+3,none⟩ x3) B v x k:=by
 obtain⟨b1,A1,l1,c1,b2,A2,l2,c2,k0,k1,k2,k3⟩:=hk;exact DgTo.set4 h k0 k1 k2 k3 (fun z=>by simp) (fun z=>by simp) (fun z=>by simp) (fun z=>by simp) x0 x1 x2 x3
theorem ExqAt.kind {D o:Nat} {v:Value} {q:Rat} {K':Nat} (h:ExqAt w w.heap.size v q K') (hk:rj w D o) (x0 x1 x2 x3:Value) :
  ExqAt ((((w.setCell ⟨D,o,none⟩ x0).setCell ⟨D,o+1,none⟩ x1).setCell ⟨D,o+2,none⟩ x2).setCell ⟨D,o+3,none⟩ x3) ((((w.setCell ⟨D,o,none⟩ x0).setCell ⟨D,o+1,none⟩ x1).setCell ⟨D,o+2,none⟩ x2).setCell ⟨D,o+3,none⟩ x3).heap.size v q K':=by
 obtain⟨_,_,_,_,N,E,e,h4,h5,h6⟩:=h;have hU:=fun {v:Value} {x m:Nat} (h:DgTo w w.heap.size v x m)=>DgTo.mono (DgTo.kind h hk x0 x1 x2 x3) (show w.heap.size≤((((w.setCell ⟨D,o,none⟩ x0).setCell ⟨D,o+1,none⟩ x1).setCell ⟨D,o+2,none⟩ x2).setCell ⟨D,o+3,none⟩ x3).heap.size by simp[World.setCell]);exact⟨_,_,_,_,N,E,e,⟨h4.1,hU h4.2⟩,⟨h5.1,hU h5.2⟩,h6⟩
theorem EqRow.kind (h:EqRow w g n f K) {i:Nat} (hi:i<n):rj w g (i*4):=by
 obtain⟨b1,A1,l1,c1,b2,A2,l2,c2,k0,k1,k2,k3,-⟩:=h.read hi;exact⟨b1,A1,l1,c1,b2,A2,l2,c2,k0,k1,k2,k3⟩
theorem EqBox.kind {D:Nat} {q:Rat} (h:EqBox w D q K):rj w D 0:=by
 obtain⟨b1,A1,l1,c1,b2,A2,l2,c2,hD,-⟩:=h;exact⟨b1,A1,l1,c1,b2,A2,l2,c2,hD.cell 0,hD.cell 1,hD.cell 2,hD.cell 3⟩
theorem Blk.kind {D:Nat} {b1:Bool} {A1:Option Addr} {l1 c1:Nat} {b2:Bool} {A2:Option Addr} {l2 c2:Nat} (hD:Blk w D 193 (zD b1 A1 l1 c1 b2 A2 l2 c2)):rj w D 0 :=
 ⟨b1,A1,l1,c1,b2,A2,l2,c2,hD.cell 0,hD.cell 1,hD.cell 2,hD.cell 3⟩
theorem EqRow.far4 (h:EqRow w g n f K) {D o:Nat} (hg:g≠D) (hk:rj w D o) (x0 x1 x2 x3:Value):EqRow ((((w.setCell ⟨D,o,none⟩ x0).setCell ⟨D,o+1,none⟩ x1).setCell ⟨D,o+2,none⟩ x2).setCell ⟨D,o+3,none⟩ x3) g n f K:=by
 obtain⟨es,h1,h2,h3⟩:=h;exact⟨es,h1,h2.far4o hg o x0 x1 x2 x3,fun j hj q hq=>(h3 j hj q hq).kind hk x0 x1 x2 x3⟩
theorem EqBox.far4 {q:Rat} (h:EqBox w g q K) {D o:Nat} (hg:g≠D) (hk:rj w D o) (x0 x1 x2 x3:Value):EqBox ((((w.setCell ⟨D,o,none⟩ x0).setCell ⟨D,o+1,none⟩ x1).setCell ⟨D,o+2,none⟩ x2).setCell ⟨D,o+3,none⟩ x3) g q K:=by
 obtain⟨b1,A1,l1,c1,b2,A2,l2,c2,h1,h2⟩:=h;exact⟨b1,A1,l1,c1,b2,A2,l2,c2,h1.far4o hg o x0 x1 x2 x3,h2.kind hk x0 x1 x2 x3⟩
end
structure MoQ (w W:World) (b:BeamT) (bx:Array Value) (g7 g8 g9:Nat) (f7 f8 f9:Nat→Option Rat):Prop where
 bm:Blk W w.heap.size 43 bx
 r7:EqRow W g7 b.sup.length f7 67530
 r8:EqRow W g8 b.sup.length f8 67530
 r9:EqRow W g9 b.sup.length f9 51
 bel:Below w.heap.size w W
 b7:w.heap.size<g7
 b8:w.heap.size<g8
 b9:w.heap.size<g9
 n78:g7≠g8
 n79:g7≠g9
 n89:g8≠g9
section
variable {w W W':World} {b:BeamT} {bx:Array Value} {g7 g8 g9:Nat} {f7 f8 f9:Nat→Option Rat}
theorem MoQ.grow (h:MoQ w W b bx g7 g8 g9 f7 f8 f9) (hb:Below W.heap.size W W'):MoQ w W' b bx g7 g8 g9 f7 f8 f9 :=
 ⟨h.bm.below hb h.bm.lt,h.r7.grow hb,h.r8.grow hb,h.r9.grow hb,h.bel.trans (hb.mono h.bel.size),h.b7,h.b8,h.b9,h.n78,h.n79,h.n89⟩
theorem MoQ.weak (h:MoQ w W b bx g7 g8 g9 f7 f8 f9) {f7' f8' f9':Nat→Option Rat} (h7:∀j q,j<b.sup.length→f7' j=some q→f7 j=some q) (h8:∀j q,j<b.sup.length→f8' j=some q→f8 j=some q) (h9:∀j q,j<b.sup.length→f9' j=some q→f9 j=some q):MoQ w W b bx g7 g8 g9 f7' f8' f9' :=
 ⟨h.bm,h.r7.weak h7,h.r8.weak h8,h.r9.weak h9,h.bel,h.b7,h.b8,h.b9,h.n78,h.n79,h.n89⟩
variable {b1:Bool} {A1:Option Addr} {l1 c1:Nat} {b2:Bool} {A2:Option Addr} {l2 c2:Nat} {q:Rat}
theorem MoQ.put7 (h:MoQ w W b bx g7 g8 g9 f7 f8 f9) {i o:Nat} (hi:i<b.sup.length) (ho:i*4=o) (hE:ExqAt W W.heap.size (.agg (zD b1 A1 l1 c1 b2 A2 l2 c2)) q 67530) :
  MoQ w ((((W.setCell ⟨g7,o,none⟩ (.bool b1)).setCell ⟨g7,o+1,none⟩ (.slice A1 l1 c1)).setCell ⟨g7,o+2,none⟩ (.bool b2)).setCell ⟨g7,o+3,none⟩ (.slice A2 l2 c2)) b bx g7 g8 g9 (eh f7 i q) f8 f9:=by
 subst ho;have hk:=h.r7.kind hi;have h1:=h.b7;have h2:=h.n78;have h3:=h.n79;exact⟨h.bm.far4o (by omega) _ _ _ _ _,h.r7.write hi hE,h.r8.far4 (by omega) hk _ _ _ _,h.r9.far4 (by omega) hk _ _ _ _,dH h.bel (by omega) _ _ _ _ _,h.b7,h.b8,h.b9,h.n78,h.n79,h.n89⟩
theorem MoQ.put8 (h:MoQ w W b bx g7 g8 g9 f7 f8 f9) {i o:Nat} (hi:i<b.sup.length) (ho:i*4=o) (hE:ExqAt W W.heap.size (.agg (zD b1 A1 l1 c1 b2 A2 l2 c2)) q 67530) :
  MoQ w ((((W.setCell ⟨g8,o,none⟩ (.bool b1)).setCell ⟨g8,o+1,none⟩ (.slice A1 l1 c1)).setCell ⟨g8,o+2,none⟩ (.bool b2)).setCell ⟨g8,o+3,none⟩ (.slice A2 l2 c2)) b bx g7 g8 g9 f7 (eh f8 i q) f9:=by
 subst ho;have hk:=h.r8.kind hi;have h1:=h.b8;have h2:=h.n78;have h3:=h.n89;exact⟨h.bm.far4o (by omega) _ _ _ _ _,h.r7.far4 (by omega) hk _ _ _ _,h.r8.write hi hE,h.r9.far4 (by omega) hk _ _ _ _,dH h.bel (by omega) _ _ _ _ _,h.b7,h.b8,h.b9,h.n78,h.n79,h.n89⟩
theorem MoQ.put9 (h:MoQ w W b bx g7 g8 g9 f7 f8 f9) {i o:Nat} (hi:i<b.sup.length) (ho:i*4=o) (hE:ExqAt W W.heap.size (.agg (zD b1 A1 l1 c1 b2 A2 l2 c2)) q 51) :
  MoQ w ((((W.setCell ⟨g9,o,none⟩ (.bool b1)).setCell ⟨g9,o+1,none⟩ (.slice A1 l1 c1)).setCell ⟨g9,o+2,none⟩ (.bool b2)).setCell ⟨g9,o+3,none⟩ (.slice A2 l2 c2)) b bx g7 g8 g9 f7 f8 (eh f9 i q):=by
 subst ho;have hk:=h.r9.kind hi;have h1:=h.b9;have h2:=h.n79;have h3:=h.n89;exact⟨h.bm.far4o (by omega) _ _ _ _ _,h.r7.far4 (by omega) hk _ _ _ _,h.r8.far4 (by omega) hk _ _ _ _,h.r9.write hi hE,dH h.bel (by omega) _ _ _ _ _,h.b7,h.b8,h.b9,h.n78,h.n79,h.n89⟩
theorem MoQ.far (h:MoQ w W b bx g7 g8 g9 f7 f8 f9) {D:Nat} (h0:w.heap.size<D) (h1:g7≠D) (h2:g8≠D) (h3:g9≠D) (hk:rj W D 0) (x0 x1 x2 x3:Value) :
  MoQ w ((((W.setCell ⟨D,0,none⟩ x0).setCell ⟨D,1,none⟩ x1).setCell ⟨D,2,none⟩ x2).setCell ⟨D,3,none⟩ x3) b bx g7 g8 g9 f7 f8 f9 :=
 ⟨h.bm.far4o (by omega) 0 _ _ _ _,h.r7.far4 h1 hk _ _ _ _,h.r8.far4 h2 hk _ _ _ _,h.r9.far4 h3 hk _ _ _ _,dH h.bel (by omega) 0 _ _ _ _,h.b7,h.b8,h.b9,h.n78,h.n79,h.n89⟩
end
