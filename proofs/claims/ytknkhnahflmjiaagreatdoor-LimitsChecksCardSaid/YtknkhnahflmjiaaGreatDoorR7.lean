/- Lemmas. -/
import Derived.Test.YtknkhnahflmjiaaGreatDoorR5
namespace Go.Proofs.YtknkhnahflmjiaaGreatDoor
set_option maxRecDepth 100000
set_option maxHeartbeats 40000000
open Go.RowKit Go.Shelf
theorem Q5 (b:BeamT):Zx b 0=bG b:=if_pos rfl
theorem Q8 {b:BeamT} (hb:BeamOk b) (ht:cK b=true):Zx b (b.sup.length-1)=bG (ao b):=by
 have h1:=hb.sup1;unfold Zx;by_cases h:b.sup.length=1
 ·rw[if_pos (by omega)];unfold cK at ht;rw[if_pos h] at ht
  have:=yG ht;grind
 rw[if_neg (by omega),show b.sup.length-1-(b.sup.length-1)=0 by omega];rfl
theorem DD {b:BeamT} (hb:BeamOk b) {i:Nat} (h0:1≤i) (hi:i+1<b.sup.length):0<bN b i:=by
 have h1:=Ay hb i h0 hi;have h2:=oH (iZ hb (i:=i+1) (by omega) hi).1;have h3:(0:Rat)<1:=by decide
 grind
theorem rp {b:BeamT} (hb:BeamOk b):∀i,1≤i→i+1<b.sup.length→bN b i≠0:=fun i h0 hi=>by
 have:=DD hb h0 hi;grind
theorem Q7 {b:BeamT} (hb:BeamOk b) {i:Nat} (h1:1≤i) (h2:i+1<b.sup.length):(ju b i).1-(ju b i).2*Zx b (i+1)=Zx b i:=by
 have h:=Iv b (rp hb) (b.sup.length-1-(i+1)) (by omega);have h':=Iv b (rp hb) (b.sup.length-1-(i+1)+1) (by omega);unfold Zx;rw[if_neg (by omega),if_neg (by omega),show b.sup.length-1-i=b.sup.length-1-(i+1)+1 by omega,←h,←h',V5,show b.sup.length-2-(b.sup.length-1-(i+1))=i by omega]
theorem Jh {b:BeamT} (hb:BeamOk b) {i:Nat} (hi:i+2<b.sup.length):0<pS b (ju b i).2 (i+1):=by
 rw[(Jc b (rp hb) i hi).1];exact DD hb (by omega) (by omega)
theorem qE (k:Int):Zu 1 [k]=(k:Rat):=by
 unfold Zu;rw[show dB [k]=k by simp[dB],Rat.divInt_eq_div,Rat.intCast_one];grind
theorem KF (k m:Int):Zu 1 [k,m]=((k*m:Int):Rat):=by
 unfold Zu;rw[xO,Rat.divInt_eq_div,Rat.intCast_one];grind
theorem Y4 (b:BeamT) (k:Nat):(0:Rat)-(cZ b (ai b k) (ai b (k+1)) true+cZ b (ai b (k+1)) (ai b (k+2)) false)=jS b (k+1):=by
 show _=((0:Int):Rat)-cZ b (ai b k) (ai b (k+1)) true-cZ b (ai b (k+1)) (ai b (k+2)) false;generalize cZ b (ai b k) (ai b (k+1)) true=x;generalize cZ b (ai b (k+1)) (ai b (k+2)) false=y;grind
theorem qxY (b:BeamT) (k:Nat):(jS b (k+1)-Zu 1 [bk b (k+1)]*(ju b k).1)/pS b (ju b k).2 (k+1)=(ju b (k+1)).1:=by
 rw[qE];rfl
theorem qxX (b:BeamT) (k:Nat):Zu 1 [bk b (k+2)]/pS b (ju b k).2 (k+1)=(ju b (k+1)).2:=by
 rw[qE];rfl
def tC (b:BeamT) (m:Nat):Nat→Option Rat:=fun j=>if j=0∨b.sup.length≤j+1+m then some (Zx b j) else none
def pF (b:BeamT) (k:Nat):Nat→Option Rat:=fun j=>if j≤k then some (ju b j).1 else none
def qF (b:BeamT) (k:Nat):Nat→Option Rat:=fun j=>if j≤k then some (ju b j).2 else none
section
variable {w w':World} {g n:Nat} {f:Nat→Option Rat} {K:Nat}
def qs (w:World) (D o:Nat):Prop:=∃b1 A1 l1 c1 b2 A2 l2 c2,w.cell? ⟨D,o,none⟩=some (.bool b1)∧w.cell? ⟨D,o+1,none⟩=some (.slice A1 l1 c1)∧w.cell? ⟨D,o+2,none⟩=some (.bool b2)∧w.cell? ⟨D,o+3,none⟩=some (.slice A2 l2 c2)
theorem DgTo.kind {B D o:Nat} {v:Value} {x k:Nat} (h:DgTo w B v x k) (hk:qs w D o) (x0 x1 x2 x3:Value):DgTo ((((w.setCell ⟨D,o,none⟩ x0).setCell ⟨D,o+1,none⟩ x1).setCell ⟨D,o+2,none⟩ x2).setCell ⟨D,o+3,none⟩ x3) B v x k:=by
 obtain⟨b1,A1,l1,c1,b2,A2,l2,c2,k0,k1,k2,k3⟩:=hk;exact DgTo.set4 h k0 k1 k2 k3 (fun z=>by simp) (fun z=>by simp) (fun z=>by simp) (fun z=>by simp) x0 x1 x2 x3
theorem ExqAt.kind {D o:Nat} {v:Value} {q:Rat} {K':Nat} (h:ExqAt w w.heap.size v q K') (hk:qs w D o) (x0 x1 x2 x3:Value) :
  ExqAt ((((w.setCell ⟨D,o,none⟩ x0).setCell ⟨D,o+1,none⟩ x1).setCell ⟨D,o+2,none⟩ x2).setCell ⟨D,o+3,none⟩ x3) ((((w.setCell ⟨D,o,none⟩ x0).setCell ⟨D,o+1,none⟩ x1).setCell ⟨D,o+2,none⟩ x2).setCell ⟨D,o+3,none⟩ x3).heap.size v q K':=by
 obtain⟨_,_,_,_,N,E,e,h4,h5,h6⟩:=h;have fJ:=fun {v:Value} {x m:Nat} (h:DgTo w w.heap.size v x m)=>DgTo.mono (DgTo.kind h hk x0 x1 x2 x3) (show w.heap.size≤((((w.setCell ⟨D,o,none⟩ x0).setCell ⟨D,o+1,none⟩ x1).setCell ⟨D,o+2,none⟩ x2).setCell ⟨D,o+3,none⟩ x3).heap.size by simp[World.setCell]);exact⟨_,_,_,_,N,E,e,⟨h4.1,fJ h4.2⟩,⟨h5.1,fJ h5.2⟩,h6⟩
theorem EqRow.kind (h:EqRow w g n f K) {i:Nat} (hi:i<n):qs w g (i*4):=by
 obtain⟨b1,A1,l1,c1,b2,A2,l2,c2,k0,k1,k2,k3,-⟩:=h.read hi;exact⟨b1,A1,l1,c1,b2,A2,l2,c2,k0,k1,k2,k3⟩
theorem EqBox.kind {D:Nat} {q:Rat} (h:EqBox w D q K):qs w D 0:=by
 obtain⟨b1,A1,l1,c1,b2,A2,l2,c2,hD,-⟩:=h;exact⟨b1,A1,l1,c1,b2,A2,l2,c2,hD.cell 0,hD.cell 1,hD.cell 2,hD.cell 3⟩
theorem Blk.kind {D:Nat} {b1:Bool} {A1:Option Addr} {l1 c1:Nat} {b2:Bool} {A2:Option Addr} {l2 c2:Nat} (hD:Blk w D 239 (zD b1 A1 l1 c1 b2 A2 l2 c2)):qs w D 0 :=
 ⟨b1,A1,l1,c1,b2,A2,l2,c2,hD.cell 0,hD.cell 1,hD.cell 2,hD.cell 3⟩
theorem EqRow.far4 (h:EqRow w g n f K) {D o:Nat} (hg:g≠D) (hk:qs w D o) (x0 x1 x2 x3:Value):EqRow ((((w.setCell ⟨D,o,none⟩ x0).setCell ⟨D,o+1,none⟩ x1).setCell ⟨D,o+2,none⟩ x2).setCell ⟨D,o+3,none⟩ x3) g n f K:=by
 obtain⟨es,h1,h2,h3⟩:=h;exact⟨es,h1,h2.far4o hg o x0 x1 x2 x3,fun j hj q hq=>(h3 j hj q hq).kind hk x0 x1 x2 x3⟩
theorem EqBox.far4 {q:Rat} (h:EqBox w g q K) {D o:Nat} (hg:g≠D) (hk:qs w D o) (x0 x1 x2 x3:Value):EqBox ((((w.setCell ⟨D,o,none⟩ x0).setCell ⟨D,o+1,none⟩ x1).setCell ⟨D,o+2,none⟩ x2).setCell ⟨D,o+3,none⟩ x3) g q K:=by
 obtain⟨b1,A1,l1,c1,b2,A2,l2,c2,h1,h2⟩:=h;exact⟨b1,A1,l1,c1,b2,A2,l2,c2,h1.far4o hg o x0 x1 x2 x3,h2.kind hk x0 x1 x2 x3⟩
end
structure MoQ (w W:World) (b:BeamT) (bx:Array Value) (g7 g8 g9:Nat) (f7 f8 f9:Nat→Option Rat):Prop where
 bm:Blk W w.heap.size 117 bx
 r7:EqRow W g7 b.sup.length f7 67530
 r8:EqRow W g8 b.sup.length f8 67530
 r9:EqRow W g9 b.sup.length f9 51
 bel:Below w.heap.size w W
 b7:w.heap.size<g7
 b8:w.heap.size<g8
 b9:w.heap.size<g9
 n78:g7≠g8
 n79:g7≠g9
 n89:g8≠g9
section
variable {w W W':World} {b:BeamT} {bx:Array Value} {g7 g8 g9:Nat} {f7 f8 f9:Nat→Option Rat}
theorem MoQ.grow (h:MoQ w W b bx g7 g8 g9 f7 f8 f9) (hb:Below W.heap.size W W'):MoQ w W' b bx g7 g8 g9 f7 f8 f9 :=
 ⟨h.bm.below hb h.bm.lt,h.r7.grow hb,h.r8.grow hb,h.r9.grow hb,h.bel.trans (hb.mono h.bel.size),h.b7,h.b8,h.b9,h.n78,h.n79,h.n89⟩
theorem MoQ.weak (h:MoQ w W b bx g7 g8 g9 f7 f8 f9) {f7' f8' f9':Nat→Option Rat} (h7:∀j q,j<b.sup.length→f7' j=some q→f7 j=some q) (h8:∀j q,j<b.sup.length→f8' j=some q→f8 j=some q) (h9:∀j q,j<b.sup.length→f9' j=some q→f9 j=some q):MoQ w W b bx g7 g8 g9 f7' f8' f9' :=
 ⟨h.bm,h.r7.weak h7,h.r8.weak h8,h.r9.weak h9,h.bel,h.b7,h.b8,h.b9,h.n78,h.n79,h.n89⟩
variable {b1:Bool} {A1:Option Addr} {l1 c1:Nat} {b2:Bool} {A2:Option Addr} {l2 c2:Nat} {q:Rat}
theorem MoQ.put7 (h:MoQ w W b bx g7 g8 g9 f7 f8 f9) {i o:Nat} (hi:i<b.sup.length) (ho:i*4=o) (hE:ExqAt W W.heap.size (.agg (zD b1 A1 l1 c1 b2 A2 l2 c2)) q 67530) :
  MoQ w ((((W.setCell ⟨g7,o,none⟩ (.bool b1)).setCell ⟨g7,o+1,none⟩ (.slice A1 l1 c1)).setCell ⟨g7,o+2,none⟩ (.bool b2)).setCell ⟨g7,o+3,none⟩ (.slice A2 l2 c2)) b bx g7 g8 g9 (eu f7 i q) f8 f9:=by
 subst ho;have hk:=h.r7.kind hi;have h1:=h.b7;have h2:=h.n78;have h3:=h.n79;exact⟨h.bm.far4o (by omega) _ _ _ _ _,h.r7.write hi hE,h.r8.far4 (by omega) hk _ _ _ _,h.r9.far4 (by omega) hk _ _ _ _,dI h.bel (by omega) _ _ _ _ _,h.b7,h.b8,h.b9,h.n78,h.n79,h.n89⟩
theorem MoQ.put8 (h:MoQ w W b bx g7 g8 g9 f7 f8 f9) {i o:Nat} (hi:i<b.sup.length) (ho:i*4=o) (hE:ExqAt W W.heap.size (.agg (zD b1 A1 l1 c1 b2 A2 l2 c2)) q 67530) :
  MoQ w ((((W.setCell ⟨g8,o,none⟩ (.bool b1)).setCell ⟨g8,o+1,none⟩ (.slice A1 l1 c1)).setCell ⟨g8,o+2,none⟩ (.bool b2)).setCell ⟨g8,o+3,none⟩ (.slice A2 l2 c2)) b bx g7 g8 g9 f7 (eu f8 i q) f9:=by
 subst ho;have hk:=h.r8.kind hi;have h1:=h.b8;have h2:=h.n78;have h3:=h.n89;exact⟨h.bm.far4o (by omega) _ _ _ _ _,h.r7.far4 (by omega) hk _ _ _ _,h.r8.write hi hE,h.r9.far4 (by omega) hk _ _ _ _,dI h.bel (by omega) _ _ _ _ _,h.b7,h.b8,h.b9,h.n78,h.n79,h.n89⟩
theorem MoQ.put9 (h:MoQ w W b bx g7 g8 g9 f7 f8 f9) {i o:Nat} (hi:i<b.sup.length) (ho:i*4=o) (hE:ExqAt W W.heap.size (.agg (zD b1 A1 l1 c1 b2 A2 l2 c2)) q 51) :
  MoQ w ((((W.setCell ⟨g9,o,none⟩ (.bool b1)).setCell ⟨g9,o+1,none⟩ (.slice A1 l1 c1)).setCell ⟨g9,o+2,none⟩ (.bool b2)).setCell ⟨g9,o+3,none⟩ (.slice A2 l2 c2)) b bx g7 g8 g9 f7 f8 (eu f9 i q):=by
 subst ho;have hk:=h.r9.kind hi;have h1:=h.b9;have h2:=h.n79;have h3:=h.n89;exact⟨h.bm.far4o (by omega) _ _ _ _ _,h.r7.far4 (by omega) hk _ _ _ _,h.r8.far4 (by omega) hk _ _ _ _,h.r9.write hi hE,dI h.bel (by omega) _ _ _ _ _,h.b7,h.b8,h.b9,h.n78,h.n79,h.n89⟩
theorem MoQ.far (h:MoQ w W b bx g7 g8 g9 f7 f8 f9) {D:Nat} (h0:w.heap.size<D) (h1:g7≠D) (h2:g8≠D) (h3:g9≠D) (hk:qs W D 0) (x0 x1 x2 x3:Value) :
  MoQ w ((((W.setCell ⟨D,0,none⟩ x0).setCell ⟨D,1,none⟩ x1).setCell ⟨D,2,none⟩ x2).setCell ⟨D,3,none⟩ x3) b bx g7 g8 g9 f7 f8 f9 :=
 ⟨h.bm.far4o (by omega) 0 _ _ _ _,h.r7.far4 h1 hk _ _ _ _,h.r8.far4 h2 hk _ _ _ _,h.r9.far4 h3 hk _ _ _ _,dI h.bel (by omega) 0 _ _ _ _,h.b7,h.b8,h.b9,h.n78,h.n79,h.n89⟩
end
def SR (b:BeamT) (w:World) (e:Ending) (w':World):Prop:=Below w.heap.size w w'∧∃g,e=.returned (.slice (some ⟨g,0,none⟩) b.sup.length b.sup.length)∧EqRow w' g b.sup.length (fun j=>some (Zx b j)) 67530
theorem CO:(Tryz.prog.info? 239).map (fun i=>(i.zero,i.size,i.bytes))=some (some (.agg (zD false none 0 0 false none 0 0)),4,64):=by kernel_rfl
theorem BD {b:BeamT} (hb:BeamOk b):ai (ao b) 0=b.len-ai b (b.sup.length-1):=by
 have h1:=hb.sup1;unfold ai ao;simp only[List.getD_eq_getElem?_getD,List.getElem?_map];rw[List.getElem?_reverse (by omega),Nat.sub_zero,yN (by omega)];rfl
theorem tc {b:BeamT} (hb:BeamOk b):(0:Rat)-dC (ao b) (b.len-ai b (b.sup.length-1))=bG (ao b):=by
 rw[s6,BD hb];rfl
theorem Uz {b:BeamT} (hb:BeamOk b) {i:Nat} (hi:i<b.sup.length):cg (Zx b i) 50647:=KN hb hi
theorem BG {x:Int} (h1:x.natAbs≤1152921504606846976):∀z∈[x],z.natAbs≤1152921504606846976:=fun z hz=>by
 simp at hz;rw[hz];exact h1
theorem Ky (v:Value) (b:BeamT) (w:World) (hv:BeamAt w w.heap.size v b) (hb:BeamOk b) (ht:cK b=true) (hT:∀(u:Value) (w1:World),BeamAt w1 w1.heap.size u b→Calls Tryz.prog 274 #[u] w1 (TurnedPost b w1)) :
  Calls Tryz.prog 207 #[v] w (SR b w):=by
 have zj:=hv;obtain⟨As,cs,Al,cl,rfl,hS,-⟩:=hv;obtain⟨_,_,e,_,oR,td⟩:=hS.open_;injection e with e1 _ e2;subst e1 e2;have h1:=hb.sup1;have h4:=hb.sup 0 h1.1;have h5:=hb.sup (b.sup.length-1) (by omega);unfold maxLen at oR;obtain⟨bs,os,rfl,gL,xZ⟩:=td 0 h1.1;have mI:Y0 (∀j,j<b.sup.length→w.cell? ⟨bs,os+j,none⟩=some (.int .i64 (ai b j))):=fun j hj=>by
  have h:=xZ j hj;unfold ai;rw[yO,yN hj];exact h
 have Hb:=zh hb;have SY:=zh ht;have HT:=zh hT;have HA0:=zh h4;have HA1:=zh h5;have h5l:=hb.len.2;have bE:=zh ((yB _ w).alloc (yA _) (.cells (zC b (some ⟨bs,os,none⟩) cs Al cl) 117));have HV:=zh (zj.grow bE.o);have HVw:=zh zj;have cw:=zh (Blk.new w 117 (zC b (some ⟨bs,os,none⟩) cs Al cl));have z0:=(bE.o.cell (p:=⟨bs,os+0,none⟩) gL).trans (mI.o 0 h1.1);rw[Nat.add_zero] at z0;have s0:(0:Int)<(b.sup.length:Int):=by omega
 obtain⟨s3,s1⟩:=h1;clear td hb hS hT zj h4 h5 xZ ht;go_enter Tryz.func207,Tryz.ntmps207;go_upto_region 1 with fail;generalize w.alloc (.cells (zC b (some ⟨bs,os,none⟩) cs Al cl) 117)=W1 at*;obtain⟨y0,y1,y2,y3,y4⟩:=cw.o.c5;generalize hsa:ai b 0=sa at*;have zl:=zh hsa;clear hsa;go_upto_region 3 with fail;have wP:=YL y0;have wO:=YL y1;have xB:=YL y2;have xA:=YL y3;have uy4:=YL y4;have Tv:=YL z0;clear y0 y1 y2 y3 y4 z0
 refine af 8 (fun jx=>if jx=0 then some (jw (0) (30)) else if jx=5 then some (jw (dC b sa) (1270)) else if jx=6 then some (jw (0-dC b sa) (1301)) else if jx=7 then some (gAq W1.heap.size) else none) (by kernel_rfl) (by kernel_rfl) ?_;simp only[aO,aR,aP,aQ];refine ae rfl rfl ?_ ?_
 ·intro w1 ak hk;have hC:=uI w1;exact zc (Zg hC)
 rintro _ ⟨Ci,Ck,Ce,Cg,Ch,Cj,Cd,Cf,rfl⟩;simp only[Act.put,aw,av,au];refine zw 4 ?_;simp only[aO,aR,aP,aQ]
 repeat (go_big_quiet_step (fail))
 refine YE ?_;refine ae rfl rfl ?_ ?_
 ·intro w1 ak hk;have hC:=EY _ b sa w1 (HV.o.grow ak) Hb.o HA0.o.1 HA0.o.2;exact zc (Zg hC)
 rintro _ ⟨qjd,qjf,qv9,qjb,qjc,qje,qv8,qja,rfl⟩;simp only[Act.put,aw,av,au];refine ae rfl rfl ?_ ?_
 ·intro w1 ak hk;have Mx:ExqAt w1 w1.heap.size (.agg (zD Ci Ck Ce Cg Ch Cj Cd Cf)) (0) (30):=hk 20 zk;have h25:ExqAt w1 w1.heap.size (.agg (zD qjd qjf qv9 qjb qjc qje qv8 qja)) (dC b sa) (1270):=hk 25 zk;have hC:=kq _ _ 0 (dC b sa) 30 1270 w1 Mx h25 (by decide);exact zc (Zg hC)
 rintro _ ⟨IY,Ja,IU,IW,IX,IZ,IS,IV,rfl⟩;simp only[Act.put,aw,av,au];refine aX rfl rfl (fun w1 ak _=>uh ak.size (by go_simp)) ?_;rintro _ ⟨g5,rfl⟩;simp only[Act.put,aw,av,au];refine Zc ?_;intro w8 aT hF;have kk:ExqAt w8 w8.heap.size (.agg (zD IY Ja IU IW IX IZ IS IV)) (0-dC b sa) 1301:=hF 26;have h5:wN W1.heap.size (.pointer (some ⟨g5,0,none⟩)) w8:=hF 5;obtain⟨g5',e5,TB,eo⟩:=h5;injection e5 with e5
 injection e5 with e5;injection e5 with e5 _ _;subst e5;obtain⟨q0,q1,q2,q3⟩:=eo.c4;have Ar:=eo.frozen (0);have Aq:=eo.frozen (1);have Ap:=eo.frozen (2);have An:=eo.frozen (3);have XE:(0:Rat)-dC b sa=bG b:=by rw[s6,zl.o];rfl
 rw[XE] at kk;have M7:=zh (EqBox.first eo kk);have eG:=zh (bE.o.trans (aT.mono bE.o.size));have aI:w.heap.size<W1.heap.size:=cw.o.lt;have iW:=zh ((cw.o.below aT cw.o.lt).far4 (D:=g5) (by omega) (.bool IY) (.slice Ja IU IW) (.bool IX) (.slice IZ IS IV));have Tm:=zh (bI eG.o (show w.heap.size≤g5 by omega) (.bool IY) (.slice Ja IU IW) (.bool IX) (.slice IZ IS IV));have Hg5:Y0 (w.heap.size<g5):=by unfold Y0;omega
 clear hF kk eo XE wP wO xB xA uy4 Tv aI aT TB eG;go_upto_region 4 with fail;generalize (((((w8).setCell ⟨g5,0,none⟩ (.bool IY)).setCell ⟨g5,1,none⟩ (.slice Ja IU IW)).setCell ⟨g5,2,none⟩ (.bool IX)).setCell ⟨g5,3,none⟩ (.slice IZ IS IV))=W9 at*;clear q0 q1 q2 q3 Ar Aq Ap An cw bE HV;have HV9:Y0 (BeamAt W9 W9.heap.size (.agg (zC b (some ⟨bs,os,none⟩) cs Al cl)) b):=HVw.o.grow Tm.o;obtain⟨y0,y1,y2,y3,y4⟩:=iW.o.c5
 have z0:=(Tm.o.cell (p:=⟨bs,os+(b.sup.length-1),none⟩) gL).trans (mI.o (b.sup.length-1) (by omega));have HTu:=zh (tc Hb.o);generalize ai b (b.sup.length-1)=sl at*;have j0:(0:Int)≤(b.sup.length:Int)-1:=by omega
 have j1:(b.sup.length:Int)-1<(b.sup.length:Int):=by omega
 have j2:((b.sup.length:Int)-1).toNat=b.sup.length-1:=by omega
 have j5:IntKind.i64.wrap ((b.sup.length:Int)-1)=(b.sup.length:Int)-1:=yF _ (by omega);have wP:=YL y0;have wO:=YL y1;have xB:=YL y2;have xA:=YL y3;have uy4:=YL y4;have Tv:=YL z0;clear y0 y1 y2 y3 y4 z0;refine af 10 (fun jx=>if jx=0 then some (jw (0) (30)) else if jx=7 then some (jw (dC (ao b) (b.len-sl)) (1270)) else if jx=8 then some (jw (0-dC (ao b) (b.len-sl)) (1301)) else if jx=9 then some (gAq W9.heap.size) else none) (by kernel_rfl) (by kernel_rfl) ?_
 simp only[aO,aR,aP,aQ];refine ae rfl rfl ?_ ?_
 ·intro w1 ak hk;have hC:=uI w1;exact zc (Zg hC)
 rintro _ ⟨Oz,O1,Ov,Ox,Oy,O0,Ou,Ow,rfl⟩;simp only[Act.put,aw,av,au];refine zw 6 ?_;simp only[aO,aR,aP,aQ]
 repeat (go_big_quiet_step (fail))
 refine YE ?_;refine ae rfl rfl ?_ ?_
 ·intro w1 ak hk;have hC:=xJ _ b sl w1 (HV9.o.grow ak) Hb.o HA1.o.1 HA1.o.2 HT.o;exact zc (Zg hC)
 rintro _ ⟨qvT,qvV,qvP,qvR,qvS,qvU,qvO,qvQ,rfl⟩;simp only[Act.put,aw,av,au];refine ae rfl rfl ?_ ?_
 ·intro w1 ak hk;have h27:ExqAt w1 w1.heap.size (.agg (zD Oz O1 Ov Ox Oy O0 Ou Ow)) (0) (30):=hk 27 zk;have h34:ExqAt w1 w1.heap.size (.agg (zD qvT qvV qvP qvR qvS qvU qvO qvQ)) (dC (ao b) (b.len-sl)) (1270):=hk 34 zk;have hC:=kq _ _ 0 (dC (ao b) (b.len-sl)) 30 1270 w1 h27 h34 (by decide);exact zc (Zg hC)
 rintro _ ⟨Ca,Cc,BU,BW,BX,Cb,BS,BV,rfl⟩;simp only[Act.put,aw,av,au];refine aX rfl rfl (fun w1 ak _=>uh ak.size (by go_simp)) ?_;rintro _ ⟨g6,rfl⟩;simp only[Act.put,aw,av,au];refine Zc ?_;intro w8 aT hF;have kk:ExqAt w8 w8.heap.size (.agg (zD Ca Cc BU BW BX Cb BS BV)) (0-dC (ao b) (b.len-sl)) 1301:=hF 35;have h5:wN W9.heap.size (.pointer (some ⟨g6,0,none⟩)) w8:=hF 6;obtain⟨g5',e5,TB,eo⟩:=h5;injection e5 with e5
 injection e5 with e5;injection e5 with e5 _ _;subst e5;obtain⟨q0,q1,q2,q3⟩:=eo.c4;have Ar:=eo.frozen (0);have Aq:=eo.frozen (1);have Ap:=eo.frozen (2);have An:=eo.frozen (3);rw[HTu.o] at kk;have aI:g5<W9.heap.size:=by
  obtain⟨_,_,_,_,_,_,_,_,h,-⟩:=M7.o;exact h.lt
 have mT:w.heap.size<g5:=Hg5.o;have LZ:=zh (EqBox.first eo kk);have VQ:=zh ((M7.o.grow aT).far4 (D:=g6) (by omega) eo.kind (.bool Ca) (.slice Cc BU BW) (.bool BX) (.slice Cb BS BV));have eG:=zh (Tm.o.trans (aT.mono Tm.o.size));have Eo:=zh ((iW.o.below aT iW.o.lt).far4 (D:=g6) (by omega) (.bool Ca) (.slice Cc BU BW) (.bool BX) (.slice Cb BS BV));have qks:=zh (bI eG.o (show w.heap.size≤g6 by omega) (.bool Ca) (.slice Cc BU BW) (.bool BX) (.slice Cb BS BV))
 have Hg6:Y0 (w.heap.size<g6):=by unfold Y0;omega
 clear hF kk eo HTu wP wO xB xA uy4 Tv aI mT aT TB eG M7 Tm iW;go_upto_region 5 with fail;simp only[Nat.zero_add] at VQ;generalize (((((w8).setCell ⟨g6,0,none⟩ (.bool Ca)).setCell ⟨g6,1,none⟩ (.slice Cc BU BW)).setCell ⟨g6,2,none⟩ (.bool BX)).setCell ⟨g6,3,none⟩ (.slice Cb BS BV))=W11 at*;clear q0 q1 q2 q3 Ar Aq Ap An HV9;obtain⟨iE,GX,pX,pW,sk⟩:=info_parts CO;have cm:iE.bytes*b.sup.length≤281474976710656:=by rw[sk];omega
 go_upto_region 6 with (at_make;refine wpList_make_full _ rfl _ _ 186 rfl _ 239 iE (.agg (zD false none 0 0 false none 0 0)) 4 Tryz.underlying186 GX pX pW .i64 .i64 _ _ b.sup.length rfl rfl rfl rfl cm (by unfold maxLen;omega) (Nat.le_refl _) ?_;intro Wl QZ Jz);have HR7:Y0 (EqRow Wl W11.heap.size b.sup.length (fun _=>none) 67530):=EqRow.made QZ;have Ah:Below W11.heap.size W11 Wl:=(yB _ _).grown Jz (yA _) (fun k hk=>by cases hk)
 have H5a:=zh (VQ.o.grow Ah);have H6a:=zh (LZ.o.grow Ah);have Ec:Y0 (g5<W11.heap.size∧g6<W11.heap.size∧w.heap.size<W11.heap.size):=by
  obtain⟨_,_,_,_,_,_,_,_,h5,-⟩:=VQ.o;obtain⟨_,_,_,_,_,_,_,_,h6,-⟩:=LZ.o;exact⟨h5.lt,h6.lt,Eo.o.lt⟩
 have HBm:=zh (Eo.o.below Ah Eo.o.lt);have km:=zh (qks.o.trans (Ah.mono qks.o.size));clear QZ Jz Ah VQ LZ Eo qks;obtain⟨g7,TA⟩:=zo (W11.heap.size);rw[TA] at HR7 Ec;simp only[TA];clear TA;obtain⟨li,lk,kY,lg,lh,lj,kX,lf,hB,hE⟩:=H5a.o;obtain⟨y0,y1,y2,y3⟩:=hB.c4;have HE:=zh hE;clear hB hE;go_wp2_with fail;refine (nu _ (bG b) 1301 50647 Wl HE.o (by decide) (aS (dH Hb.o) (by decide))).mono ?_;rintro e w13 ⟨v13,rfl,Rr,qjI⟩
 obtain⟨EE,EG,EA,EC,ED,EF,E8,EB,_,_,rfl,-⟩:=cf qjI;have Ef:=zh (HR7.o.grow Rr);have H6b:=zh (H6a.o.grow Rr);have vqm:=zh (HBm.o.below Rr HBm.o.lt);have Bd:=zh (km.o.trans (Rr.mono km.o.size));have vqk:=zh qjI;obtain⟨kA,kC,ku,k7,k8,kB,kt,ky,o0,o1,o2,o3,oE⟩:=Ef.o.read (i:=0) (by omega);have ng:=Ef.o.frozen (0);have na:=Ef.o.frozen (1);have mZ:=Ef.o.frozen (2);have mY:=Ef.o.frozen (3);simp only[Nat.zero_mul,Nat.zero_add] at o0 o1 o2 o3
 clear y0 y1 y2 y3 HE qjI oE Rr H5a H6a HR7 HBm km;go_upto_region 7 with fail;have Yg:ExqAt w13 w13.heap.size (.agg (zD EE EG EA EC ED EF E8 EB)) (Zx b 0) 67530:=by rw[Q5];exact vqk.o
 have qkh:=zh (Ef.o.write (i:=0) (by omega) Yg);have H6c:=zh (H6b.o.far4 (D:=g7) (o:=0*4) (by have:=Ec.o.2.1;omega) (Ef.o.kind (i:=0) (by omega)) (.bool EE) (.slice EG EA EC) (.bool ED) (.slice EF E8 EB));have VZ:=zh (vqm.o.far4o (D:=g7) (by have:=Ec.o.2.2;omega) (0*4) (.bool EE) (.slice EG EA EC) (.bool ED) (.slice EF E8 EB));have Wa:=zh (dI (g:=g7) Bd.o (by have:=Ec.o.2.2;omega) (0*4) (.bool EE) (.slice EG EA EC) (.bool ED) (.slice EF E8 EB))
 simp only[Nat.zero_mul,Nat.zero_add] at qkh H6c VZ Wa;clear vqk Yg Ef H6b vqm Bd o0 o1 o2 o3 ng na mZ mY;generalize (((((w13).setCell ⟨g7,0,none⟩ (.bool EE)).setCell ⟨g7,1,none⟩ (.slice EG EA EC)).setCell ⟨g7,2,none⟩ (.bool ED)).setCell ⟨g7,3,none⟩ (.slice EF E8 EB))=W14 at*;obtain⟨li,lk,kY,lg,lh,lj,kX,lf,hB,hE⟩:=H6c.o;obtain⟨y0,y1,y2,y3⟩:=hB.c4;have HE:=zh hE;clear hB hE;go_wp2_with fail;refine (nu _ (bG (ao b)) 1301 50647 W14 HE.o (by decide) (aS (dH (kW Hb.o)) (by decide))).mono ?_
 rintro e w15 ⟨v15,rfl,Hf,qjH⟩;obtain⟨Yv,Yx,Yr,Yt,Yu,Yw,Yq,Ys,_,_,rfl,-⟩:=cf qjH;have Iz:=zh (qkh.o.grow Hf);have vql:=zh (VZ.o.below Hf VZ.o.lt);have vqp:=zh (Wa.o.trans (Hf.mono Wa.o.size));have vqj:=zh qjH;obtain⟨kA,kC,ku,k7,k8,kB,kt,ky,o0,o1,o2,o3,oE⟩:=Iz.o.read (i:=b.sup.length-1) (by omega);have ng:=Iz.o.frozen ((b.sup.length-1)*4);have na:=Iz.o.frozen ((b.sup.length-1)*4+1);have mZ:=Iz.o.frozen ((b.sup.length-1)*4+2)
 have mY:=Iz.o.frozen ((b.sup.length-1)*4+3);clear y0 y1 y2 y3 HE qjH oE Hf H6c qkh VZ Wa;go_upto_region 8 with fail;have Yc:ExqAt w15 w15.heap.size (.agg (zD Yv Yx Yr Yt Yu Yw Yq Ys)) (Zx b (b.sup.length-1)) 67530:=by rw[Q8 Hb.o SY.o];exact vqj.o
 have qkg:=zh (Iz.o.write (i:=b.sup.length-1) (by omega) Yc);have qkq:=zh (vql.o.far4o (D:=g7) (by have:=Ec.o.2.2;omega) ((b.sup.length-1)*4) (.bool Yv) (.slice Yx Yr Yt) (.bool Yu) (.slice Yw Yq Ys));have qkr:=zh (dI (g:=g7) vqp.o (by have:=Ec.o.2.2;omega) ((b.sup.length-1)*4) (.bool Yv) (.slice Yx Yr Yt) (.bool Yu) (.slice Yw Yq Ys));clear vqj Yc Iz vql vqp o0 o1 o2 o3 ng na mZ mY;generalize (((((w15).setCell ⟨g7,(b.sup.length-1)*4,none⟩ (.bool Yv)).setCell ⟨g7,(b.sup.length-1)*4+1,none⟩ (.slice Yx Yr Yt)).setCell ⟨g7,(b.sup.length-1)*4+2,none⟩ (.bool Yu)).setCell ⟨g7,(b.sup.length-1)*4+3,none⟩ (.slice Yw Yq Ys))=W16 at*
 go_upto_region 9 with (at_make;refine wpList_make_full _ rfl _ _ 186 rfl _ 239 iE (.agg (zD false none 0 0 false none 0 0)) 4 Tryz.underlying186 GX pX pW .i64 .i64 _ _ b.sup.length rfl rfl rfl rfl cm (by unfold maxLen;omega) (Nat.le_refl _) ?_;intro Y1 bO eO);have hb:Below W16.heap.size W16 Y1:=(yB _ _).grown eO (yA _) (fun k hk=>by cases hk);have pj:Y0 (EqRow Y1 W16.heap.size b.sup.length (fun _=>none) 67530):=EqRow.made bO
 have qkf:=zh (qkg.o.grow hb);have qkp:=zh (qkq.o.below hb qkq.o.lt);have Bc:=zh (qkr.o.trans (hb.mono qkr.o.size));have qj6:Y0 (g7<W16.heap.size):=qkg.o.lt;clear bO eO hb qkg qkq qkr;obtain⟨g8,hg8⟩:=zo (W16.heap.size);rw[hg8] at pj qj6;simp only[hg8];clear hg8;go_upto_region 10 with (at_make;refine wpList_make_full _ rfl _ _ 186 rfl _ 239 iE (.agg (zD false none 0 0 false none 0 0)) 4 Tryz.underlying186 GX pX pW .i64 .i64 _ _ b.sup.length rfl rfl rfl rfl cm (by unfold maxLen;omega) (Nat.le_refl _) ?_;intro w18 bO eO)
 have hb:Below Y1.heap.size Y1 w18:=(yB _ _).grown eO (yA _) (fun k hk=>by cases hk);have tM:Y0 (EqRow w18 Y1.heap.size b.sup.length (fun _=>none) 51):=EqRow.made bO;have HM:Y0 (MoQ w w18 b (zC b (some ⟨bs,os,none⟩) cs Al cl) g7 g8 Y1.heap.size (tC b 0) (fun _=>none) (fun _=>none)):=by
  have a1:=Ec.o;have a2:=qj6.o;have a3:=pj.o.lt;have a4:=qkf.o.lt;exact⟨qkp.o.below hb qkp.o.lt,(qkf.o.grow hb).weak (fun j q hj h=>by
   unfold tC at h;unfold eu;by_cases e1:j=b.sup.length-1
   ·rw[if_pos e1,←e1];rw[if_pos (by omega)] at h;exact h
   rw[if_neg e1];by_cases e2:j=0
   ·subst e2;rw[if_pos rfl];rw[if_pos (by omega)] at h;exact h
   rw[if_neg (by omega)] at h;cases h),pj.o.grow hb,tM.o,Bc.o.trans (hb.mono Bc.o.size),a1.2.2,by omega,by omega,by omega,by omega,by omega⟩
 clear bO eO hb qkf pj tM qkp Bc Ec qj6 cm GX pX pW sk;obtain⟨g9,hg9⟩:=zo (Y1.heap.size);rw[hg9] at HM;simp only[hg9];clear hg9;obtain⟨kA,kC,ku,k7,k8,kB,kt,ky,o0,o1,o2,o3,oE⟩:=HM.o.r7.read (i:=0) (by omega);obtain⟨nb1,nA1,nl1,nc1,nb2,nA2,nl2,nc2,k0,k1,k2,k3,kE⟩:=HM.o.r8.read (i:=0) (by omega);have fk0:=HM.o.r8.frozen (0);have fk1:=HM.o.r8.frozen (1);have fk2:=HM.o.r8.frozen (2);have fk3:=HM.o.r8.frozen (3)
 simp only[Nat.zero_mul,Nat.zero_add] at o0 o1 o2 o3 k0 k1 k2 k3;have HE:=zh (oE (Zx b 0) (if_pos (.inl rfl)));clear oE kE;go_upto_region 11 with fail;have Bp:=zh (HM.o.put8 (i:=0) (o:=0) (by omega) rfl HE.o);simp only[Nat.zero_add] at Bp;clear HM HE o0 o1 o2 o3 k0 k1 k2 k3 fk0 fk1 fk2 fk3;generalize (((((w18).setCell ⟨g8,0,none⟩ (.bool kA)).setCell ⟨g8,1,none⟩ (.slice kC ku k7)).setCell ⟨g8,2,none⟩ (.bool k8)).setCell ⟨g8,3,none⟩ (.slice kB kt ky))=W19 at*
 go_wp2_with fail;refine (uI W19).mono ?_;rintro e Yz ⟨v20,rfl,qkI,qjG⟩;obtain⟨EE,EG,EA,EC,ED,EF,E8,EB,_,_,rfl,-⟩:=cf qjG;have TK:=zh (Bp.o.grow qkI);have HE:=zh (qjG.more (K':=51) (by decide));clear qjG qkI Bp;obtain⟨nb1,nA1,nl1,nc1,nb2,nA2,nl2,nc2,k0,k1,k2,k3,kE⟩:=TK.o.r9.read (i:=0) (by omega);have fk0:=TK.o.r9.frozen (0);have fk1:=TK.o.r9.frozen (1);have fk2:=TK.o.r9.frozen (2);have fk3:=TK.o.r9.frozen (3)
 simp only[Nat.zero_mul,Nat.zero_add] at k0 k1 k2 k3;clear kE;go_wp2_with fail;have HM4:=TK.o.put9 (i:=0) (o:=0) (by omega) rfl HE.o;simp only[Nat.zero_add] at HM4;have JZ:Y0 (MoQ w (((((Yz).setCell ⟨g9,0,none⟩ (.bool EE)).setCell ⟨g9,1,none⟩ (.slice EG EA EC)).setCell ⟨g9,2,none⟩ (.bool ED)).setCell ⟨g9,3,none⟩ (.slice EF E8 EB)) b (zC b (some ⟨bs,os,none⟩) cs Al cl) g7 g8 g9 (tC b 0) (pF b 0) (qF b 0)):=HM4.weak (fun _ _ _ h=>h) (fun j q _ h=>by
  unfold pF at h;by_cases e:j=0
  ·subst e;rw[if_pos (yA _)] at h;rw[←h];exact if_pos rfl
  ·rw[if_neg (by omega)] at h;cases h) (fun j q _ h=>by
  unfold qF at h;by_cases e:j=0
  ·subst e;rw[if_pos (yA _)] at h;rw[←h];exact if_pos rfl
  rw[if_neg (by omega)] at h;cases h)
 clear TK HM4 HE k0 k1 k2 k3 fk0 fk1 fk2 fk3;generalize (((((Yz).setCell ⟨g9,0,none⟩ (.bool EE)).setCell ⟨g9,1,none⟩ (.slice EG EA EC)).setCell ⟨g9,2,none⟩ (.bool ED)).setCell ⟨g9,3,none⟩ (.slice EF E8 EB))=W21 at*;go_loopw [10] (fun ix wr=>∃k:Nat,(k=0∨k+2≤b.sup.length)∧ix=.int .i64 ((k:Int)+1)∧Y0 (MoQ w wr b (zC b (some ⟨bs,os,none⟩) cs Al cl) g7 g8 g9 (tC b 0) (pF b k) (qF b k))) (fun ix _=>b.sup.length-(intOf ix).toNat)
 case atStart=>exact⟨0,.inl rfl,rfl,JZ⟩
 clear JZ;obtain⟨k,hk,rfl,HM⟩:=hrel;have k9:(k:Int)+1≤10:=by omega
 have kk0:(0:Int)≤(k:Int):=yE _;by_cases aK:k+2<b.sup.length
 ·skip
  have k1:(k:Int)+1<(b.sup.length:Int)-1:=by omega
  have a1:=(HM.o.bel.cell (p:=⟨bs,os+k,none⟩) gL).trans (mI.o k (by omega));obtain⟨ii,hii⟩:=zo (k+1);have a2:=(HM.o.bel.cell (p:=⟨bs,os+(k+1),none⟩) gL).trans (mI.o (k+1) (by omega));have a3:=(HM.o.bel.cell (p:=⟨bs,os+(k+2),none⟩) gL).trans (mI.o (k+2) (by omega));have t0:=Hb.o.sup k (by omega);have t1:=Hb.o.inc k (by omega);have t2:=Hb.o.inc (k+1) (by omega);have t3:=Hb.o.sup (k+2) (by omega);have HK:Y0 (bk b (k+1)=ai b (k+1)-ai b k):=rfl
  have HN:Y0 (bk b (k+2)=ai b (k+2)-ai b (k+1)):=rfl;have HRH:=zh (Y4 b k);rw[show k+1+1=k+2 from rfl] at t2;have HZ1:=zh (mI.o k (by omega));have HZ2:=zh (mI.o (k+1) (by omega));have HZ3:=zh (mI.o (k+2) (by omega));have e1:(k:Int)+1=(ii:Int):=by omega
  rw[e1] at k1 k9;rw[e1];have i0:(0:Int)≤(ii:Int):=yE _;have i4:(ii:Int)<(b.sup.length:Int):=by omega
  have i1:ii<b.sup.length:=by omega
  generalize ai b k=sp at*;generalize ai b (k+1)=sq at*;generalize ai b (k+2)=sr at*;obtain⟨t01,t02⟩:=t0;obtain⟨t31,t32⟩:=t3;have i3:((k:Int)+2).toNat=k+2:=by omega
  have i5:(k:Int)<(b.sup.length:Int):=by omega
  have i7:(k:Int)+2<(b.sup.length:Int):=by omega
  have i9:(0:Int)≤(k:Int)+2:=by omega
  have v1:IntKind.i64.wrap ((ii:Int)-1)=(k:Int):=(yF _ (by omega)).trans (by omega);have v2:IntKind.i64.wrap ((ii:Int)+1)=(k:Int)+2:=(yF _ (by omega)).trans (by omega);have v3:IntKind.i64.wrap (sq-sp)=sq-sp:=yF _ (by omega);have v4:IntKind.i64.wrap (sr-sq)=sr-sq:=yF _ (by omega);rw[hii] at a2 HZ2;have Hii:=zh hii;clear hii e1;go_upto_region 15 with fail;go_quiet (fail);go_upto_region 16 with fail;generalize hdw:wr.drewN nq=W22 at*
  have Te:Y0 (MoQ w W22 b (zC b (some ⟨bs,os,none⟩) cs Al cl) g7 g8 g9 (tC b 0) (pF b k) (qF b k)):=by rw[←hdw];exact HM.o.grow (Zf (yB _ _) _)
  clear hdw a1 a2 a3 HM;obtain⟨y0,y1,y2,y3,y4⟩:=Te.o.bm.c5;have z1:=(Te.o.bel.cell (p:=⟨bs,os+k,none⟩) gL).trans HZ1.o;have z2:=(Te.o.bel.cell (p:=⟨bs,os+ii,none⟩) gL).trans HZ2.o;have z3:=(Te.o.bel.cell (p:=⟨bs,os+(k+2),none⟩) gL).trans HZ3.o;have HV:=zh (HVw.o.grow Te.o.bel);have wP:=YL y0;have wO:=YL y1;have xB:=YL y2;have xA:=YL y3;have uy4:=YL y4;have uz1:=YL z1;have uz2:=YL z2;have uz3:=YL z3
  clear y0 y1 y2 y3 y4 z1 z2 z3;refine af 26 (fun jx=>if jx=0 then some (jw (0) (30)) else if jx=11 then some (jw (cZ b sp sq true) (1270)) else if jx=22 then some (jw (cZ b sq sr false) (1270)) else if jx=23 then some (jw (cZ b sp sq true+cZ b sq sr false) (2541)) else if jx=24 then some (jw (0-(cZ b sp sq true+cZ b sq sr false)) (2572)) else if jx=25 then some (gAq W22.heap.size) else none) (by kernel_rfl) (by kernel_rfl) ?_
  simp only[aO,aR,aP,aQ];refine ae rfl rfl ?_ ?_
  ·intro w1 ak hk;have hC:=uI w1;exact zc (Zg hC)
  rintro _ ⟨N5,N7,Nw,Ny,Nz,N6,Nv,Nx,rfl⟩;simp only[Act.put,aw,av,au];refine zw 10 ?_;simp only[aO,aR,aP,aQ]
  repeat (go_big_quiet_step (fail))
  refine YE ?_;refine ae rfl rfl ?_ ?_
  ·intro w1 ak hk;have hC:=YM _ b sp sq w1 (HV.o.grow ak) Hb.o (by omega) (by omega) (by omega);exact zc (Zg hC)
  rintro _ ⟨qzB,qzD,qzx,qzz,qzA,qzC,qzw,qzy,rfl⟩;simp only[Act.put,aw,av,au];refine zw 10 ?_;simp only[aO,aR,aP,aQ]
  repeat (go_big_quiet_step (fail))
  refine YE ?_;refine ae rfl rfl ?_ ?_
  ·intro w1 ak hk;have hC:=YN _ b sq sr w1 (HV.o.grow ak) Hb.o (by omega) (by omega) (by omega);exact zc (Zg hC)
  rintro _ ⟨G3,G5,Gz,G1,G2,G4,Gy,G0,rfl⟩;simp only[Act.put,aw,av,au];refine ae rfl rfl ?_ ?_
  ·intro w1 ak hk;have h97:ExqAt w1 w1.heap.size (.agg (zD qzB qzD qzx qzz qzA qzC qzw qzy)) (cZ b sp sq true) (1270):=hk 97 zk;have qjR:ExqAt w1 w1.heap.size (.agg (zD G3 G5 Gz G1 G2 G4 Gy G0)) (cZ b sq sr false) (1270):=hk 108 zk;have hC:=ig _ _ _ _ 1270 1270 w1 h97 qjR (by decide);exact zc (Zg hC)
  rintro _ ⟨Gv,Gx,Gr,Gt,Gu,Gw,Gq,Gs,rfl⟩;simp only[Act.put,aw,av,au];refine ae rfl rfl ?_ ?_
  ·intro w1 ak hk;have h86:ExqAt w1 w1.heap.size (.agg (zD N5 N7 Nw Ny Nz N6 Nv Nx)) (0) (30):=hk 86 zk;have qjQ:ExqAt w1 w1.heap.size (.agg (zD Gv Gx Gr Gt Gu Gw Gq Gs)) (cZ b sp sq true+cZ b sq sr false) (2541):=hk 109 zk;have hC:=kq _ _ _ _ 30 2541 w1 h86 qjQ (by decide);exact zc (Zg hC)
  rintro _ ⟨Gm,Gp,Gi,Gk,Gl,Gn,Gh,Gj,rfl⟩;simp only[Act.put,aw,av,au];refine aX rfl rfl (fun w1 ak _=>uh ak.size (by go_simp)) ?_;rintro _ ⟨xt,rfl⟩;simp only[Act.put,aw,av,au];refine Zc ?_;intro w8 aT hF;have kk:ExqAt w8 w8.heap.size (.agg (zD Gm Gp Gi Gk Gl Gn Gh Gj)) (0-(cZ b sp sq true+cZ b sq sr false)) 2572:=hF 110;have h5:wN W22.heap.size (.pointer (some ⟨xt,0,none⟩)) w8:=hF 13;obtain⟨g5',e5,TB,eo⟩:=h5
  injection e5 with e5;injection e5 with e5;injection e5 with e5 _ _;subst e5;obtain⟨q0,q1,q2,q3⟩:=eo.c4;have Ar:=eo.frozen (0);have Aq:=eo.frozen (1);have Ap:=eo.frozen (2);have An:=eo.frozen (3);have XE:=HRH.o;rw[XE] at kk;have VH:=zh (EqBox.first eo kk);have HM7:=Te.o.grow aT;have l7:=Te.o.r7.lt;have l8:=Te.o.r8.lt;have l9:=Te.o.r9.lt;have l0:=Te.o.b7;have HM8:=zh (HM7.far (D:=xt) (by omega) (by omega) (by omega) (by omega) eo.kind (.bool Gm) (.slice Gp Gi Gk) (.bool Gl) (.slice Gn Gh Gj))
  have VF:Y0 (g7<xt∧g8<xt∧g9<xt):=by unfold Y0;omega
  clear hF kk eo XE wP wO xB xA uy4 uz1 uz2 uz3 aT TB HM7 l7 l8 l9 l0 Te HRH HZ1 HZ2 HZ3 HV;go_upto_region 17 with fail;generalize (((((w8).setCell ⟨xt,0,none⟩ (.bool Gm)).setCell ⟨xt,1,none⟩ (.slice Gp Gi Gk)).setCell ⟨xt,2,none⟩ (.bool Gl)).setCell ⟨xt,3,none⟩ (.slice Gn Gh Gj))=W23 at*;clear q0 q1 q2 q3 Ar Aq Ap An;obtain⟨li,lk,kY,lg,lh,lj,kX,lf,hB,hE⟩:=VH.o;obtain⟨y0,y1,y2,y3⟩:=hB.c4;have HE:=zh hE
  obtain⟨kA,kC,ku,k7,k8,kB,kt,ky,o0,o1,o2,o3,oE⟩:=HM8.o.r8.read (i:=k) (by omega);have HO:=zh (oE (ju b k).1 (if_pos (yA _)));have mz:(sq-sp).natAbs≤1152921504606846976:=by omega
  clear oE hE hB;have wP:=YL y0;have wO:=YL y1;have xB:=YL y2;have xA:=YL y3;have uo0:=YL o0;have uo1:=YL o1;have uo2:=YL o2;have uo3:=YL o3;clear y0 y1 y2 y3 o0 o1 o2 o3;refine af 11 (fun jx=>if jx=2 then some (gI [sq-sp]) else if jx=3 then some (jw (Zu 1 [sq-sp]) (30)) else if jx=9 then some (jw (Zu 1 [sq-sp]*(ju b k).1) (67560)) else if jx=10 then some (jw (jS b (k+1)-Zu 1 [sq-sp]*(ju b k).1) (70133)) else none) (by kernel_rfl) (by kernel_rfl) ?_
  simp only[aO,aR,aP,aQ];refine zw 2 ?_;simp only[aO,aR,aP,aQ]
  repeat (go_big_quiet_step (fail))
  refine YE ?_;refine aX rfl rfl (fun w1 ak _=>fm (T:=3) (l:=[sq-sp]) (yU rfl) (by go_simp)) ?_;rintro _ ⟨vwq,rfl⟩;simp only[Act.put,aw,av,au];refine ae rfl rfl ?_ ?_
  ·intro w1 ak hk;have qjP:ct w1 w1.heap.size (.slice (some ⟨vwq,0,none⟩) 1 1) [sq-sp]:=hk 113 zk;have hC:=fF 1 _ [sq-sp] w1 qjP (yU rfl) (BG mz) (by decide) (by decide);exact zc (Zg hC)
  rintro _ ⟨Ge,Gg,Ga,Gc,Gd,Gf,FZ,Gb,rfl⟩;simp only[Act.put,aw,av,au];refine zw 5 ?_;simp only[aO,aR,aP,aQ]
  repeat (go_big_quiet_step (fail))
  refine YE ?_;refine ae rfl rfl ?_ ?_
  ·intro w1 ak hk;have vwf:ExqAt w1 w1.heap.size (.agg (zD Ge Gg Ga Gc Gd Gf FZ Gb)) (Zu 1 [sq-sp]) (30):=hk 114 zk;have hC:=qD _ _ _ _ 30 67530 w1 vwf (HO.o.grow ak) (by decide);exact zc (Zg hC)
  rintro _ ⟨qxf,qxh,qxb,qxd,qxe,qxg,qxa,qxc,rfl⟩;simp only[Act.put,aw,av,au];refine ae rfl rfl ?_ ?_
  ·intro w1 ak hk;have vwc:ExqAt w1 w1.heap.size (.agg (zD qxf qxh qxb qxd qxe qxg qxa qxc)) (Zu 1 [sq-sp]*(ju b k).1) (67560):=hk 120 zk;have hC:=kq _ _ _ _ 2572 67560 w1 (HE.o.grow ak) vwc (by decide);exact zc (Zg hC)
  rintro _ ⟨FN,FP,FI,FK,FM,FO,FH,FJ,rfl⟩;simp only[Act.put,aw,av,au];refine Zc ?_;intro w8 aT hF;have kk:ExqAt w8 w8.heap.size (.agg (zD FN FP FI FK FM FO FH FJ)) (jS b (k+1)-Zu 1 [sq-sp]*(ju b k).1) 70133:=hF 121;have HX9:=VH.o.grow aT;obtain⟨_,_,_,_,_,_,_,_,eo,-⟩:=VH.o.grow aT;have SV:=zh (HX9.put kk);have HM9:=zh ((HM8.o.grow aT).far (D:=xt) (by have:=VF.o;have:=HM8.o.b7;omega) (by have:=VF.o;omega) (by have:=VF.o;omega) (by have:=VF.o;omega) HX9.kind (.bool FN) (.slice FP FI FK) (.bool FM) (.slice FO FH FJ))
  obtain⟨q0,q1,q2,q3⟩:=eo.c4;have Ar:=eo.frozen (0);have Aq:=eo.frozen (1);have Ap:=eo.frozen (2);have An:=eo.frozen (3);clear hF kk eo HX9 wP wO xB xA uo0 uo1 uo2 uo3 aT HM8 VH HE HO;go_upto_region 18 with fail;generalize (((((w8).setCell ⟨xt,0,none⟩ (.bool FN)).setCell ⟨xt,1,none⟩ (.slice FP FI FK)).setCell ⟨xt,2,none⟩ (.bool FM)).setCell ⟨xt,3,none⟩ (.slice FO FH FJ))=W24 at*;clear q0 q1 q2 q3 Ar Aq Ap An
  obtain⟨kA,kC,ku,k7,k8,kB,kt,ky,o0,o1,o2,o3,oE⟩:=HM9.o.r9.read (i:=k) (by omega);have HO:=zh (oE (ju b k).2 (if_pos (yA _)));have v5:IntKind.i64.wrap ((sq-sp)+(sr-sq))=(sq-sp)+(sr-sq):=yF _ (by omega);have lQ:((sq-sp)+(sr-sq)).natAbs≤1152921504606846976:=by omega
  clear oE;have uo0:=YL o0;have uo1:=YL o1;have uo2:=YL o2;have uo3:=YL o3;clear o0 o1 o2 o3;refine af 16 (fun jx=>if jx=3 then some (gI [2,(sq-sp)+(sr-sq)]) else if jx=4 then some (jw (Zu 1 [2,(sq-sp)+(sr-sq)]) (30)) else if jx=6 then some (gI [sq-sp]) else if jx=7 then some (jw (Zu 1 [sq-sp]) (30)) else if jx=13 then some (jw (Zu 1 [sq-sp]*(ju b k).2) (81)) else if jx=14 then some (jw (Zu 1 [2,(sq-sp)+(sr-sq)]-Zu 1 [sq-sp]*(ju b k).2) (112)) else if jx=15 then some (gAq W24.heap.size) else none) (by kernel_rfl) (by kernel_rfl) ?_
  simp only[aO,aR,aP,aQ];refine zw 3 ?_;simp only[aO,aR,aP,aQ]
  repeat (go_big_quiet_step (fail))
  refine YE ?_;refine aX rfl rfl (fun w1 ak _=>fm (T:=3) (l:=[2,(sq-sp)+(sr-sq)]) (yU rfl) (by go_simp)) ?_;rintro _ ⟨vwp,rfl⟩;simp only[Act.put,aw,av,au];refine ae rfl rfl ?_ ?_
  ·intro w1 ak hk;have Vf:ct w1 w1.heap.size (.slice (some ⟨vwp,0,none⟩) 2 2) [2,(sq-sp)+(sr-sq)]:=hk 125 zk;have hC:=fF 1 _ [2,(sq-sp)+(sr-sq)] w1 Vf (yU rfl) (xF (by decide) lQ) (by decide) (by decide);exact zc (Zg hC)
  rintro _ ⟨qwR,qwT,qwN,qwP,qwQ,qwS,qwM,qwO,rfl⟩;simp only[Act.put,aw,av,au];refine zw 1 ?_;simp only[aO,aR,aP,aQ]
  repeat (go_big_quiet_step (fail))
  refine YE ?_;refine aX rfl rfl (fun w1 ak _=>fm (T:=3) (l:=[sq-sp]) (yU rfl) (by go_simp)) ?_;rintro _ ⟨vwo,rfl⟩;simp only[Act.put,aw,av,au];refine ae rfl rfl ?_ ?_
  ·intro w1 ak hk;have qjN:ct w1 w1.heap.size (.slice (some ⟨vwo,0,none⟩) 1 1) [sq-sp]:=hk 128 zk;have hC:=fF 1 _ [sq-sp] w1 qjN (yU rfl) (BG mz) (by decide) (by decide);exact zc (Zg hC)
  rintro _ ⟨FE,FG,FA,FC,FD,FF,F9,FB,rfl⟩;simp only[Act.put,aw,av,au];refine zw 5 ?_;simp only[aO,aR,aP,aQ]
  repeat (go_big_quiet_step (fail))
  refine YE ?_;refine ae rfl rfl ?_ ?_
  ·intro w1 ak hk;have qjM:ExqAt w1 w1.heap.size (.agg (zD FE FG FA FC FD FF F9 FB)) (Zu 1 [sq-sp]) (30):=hk 129 zk;have hC:=qD _ _ _ _ 30 51 w1 qjM (HO.o.grow ak) (by decide);exact zc (Zg hC)
  rintro _ ⟨qwt,qwv,qwp,qwr,qws,qwu,qwo,qwq,rfl⟩;simp only[Act.put,aw,av,au];refine ae rfl rfl ?_ ?_
  ·intro w1 ak hk;have vq9:ExqAt w1 w1.heap.size (.agg (zD qwR qwT qwN qwP qwQ qwS qwM qwO)) (Zu 1 [2,(sq-sp)+(sr-sq)]) (30):=hk 126 zk;have vq7:ExqAt w1 w1.heap.size (.agg (zD qwt qwv qwp qwr qws qwu qwo qwq)) (Zu 1 [sq-sp]*(ju b k).2) (81):=hk 135 zk;have hC:=kq _ _ _ _ 30 81 w1 vq9 vq7 (by decide);exact zc (Zg hC)
  rintro _ ⟨zO,zQ,zK,zM,zN,zP,zJ,zL,rfl⟩;simp only[Act.put,aw,av,au];refine aX rfl rfl (fun w1 ak _=>uh ak.size (by go_simp)) ?_;rintro _ ⟨yi,rfl⟩;simp only[Act.put,aw,av,au];refine Zc ?_;intro w8 aT hF;have kk:ExqAt w8 w8.heap.size (.agg (zD zO zQ zK zM zN zP zJ zL)) (Zu 1 [2,(sq-sp)+(sr-sq)]-Zu 1 [sq-sp]*(ju b k).2) 112:=hF 136;have h5:wN W24.heap.size (.pointer (some ⟨yi,0,none⟩)) w8:=hF 14;obtain⟨g5',e5,TB,eo⟩:=h5
  injection e5 with e5;injection e5 with e5;injection e5 with e5 _ _;subst e5;obtain⟨q0,q1,q2,q3⟩:=eo.c4;have Ar:=eo.frozen (0);have Aq:=eo.frozen (1);have Ap:=eo.frozen (2);have An:=eo.frozen (3);have XE:Zu 1 [2,(sq-sp)+(sr-sq)]-Zu 1 [sq-sp]*(ju b k).2=pS b (ju b k).2 (k+1):=by
   unfold pS;rw[KF,qE,HK.o,HN.o]
  rw[XE] at kk;have qka:=zh (EqBox.first eo kk);have HM7:=HM9.o.grow aT;have l7:=HM9.o.r7.lt;have l8:=HM9.o.r8.lt;have l9:=HM9.o.r9.lt;have l0:=HM9.o.b7;have HM8:=zh (HM7.far (D:=yi) (by omega) (by omega) (by omega) (by omega) eo.kind (.bool zO) (.slice zQ zK zM) (.bool zN) (.slice zP zJ zL));have l13:xt<W24.heap.size:=by
   obtain⟨_,_,_,_,_,_,_,_,h,-⟩:=SV.o;exact h.lt
  have qj7:Y0 (g7<yi∧g8<yi∧g9<yi):=by unfold Y0;omega
  have SU:=zh ((SV.o.grow aT).far4 (D:=yi) (by omega) eo.kind (.bool zO) (.slice zQ zK zM) (.bool zN) (.slice zP zJ zL));clear hF kk eo XE uo0 uo1 uo2 uo3 aT TB HM7 l7 l8 l9 l0 l13 HM9 SV HO v5 lQ;go_upto_region 19 with fail;simp only[Nat.zero_add] at SU;generalize (((((w8).setCell ⟨yi,0,none⟩ (.bool zO)).setCell ⟨yi,1,none⟩ (.slice zQ zK zM)).setCell ⟨yi,2,none⟩ (.bool zN)).setCell ⟨yi,3,none⟩ (.slice zP zJ zL))=W25 at*
  clear q0 q1 q2 q3 Ar Aq Ap An;obtain⟨li,lk,kY,lg,lh,lj,kX,lf,hB,hE⟩:=SU.o;obtain⟨y0,y1,y2,y3⟩:=hB.c4;obtain⟨MR,MU,Mk,MP,MQ,MS,Mj,MO,wT,Aj⟩:=qka.o;obtain⟨t0,t1,t2,t3⟩:=wT.c4;have HE:=zh hE;have gn:=zh Aj;clear hB wT hE Aj;go_wp2_with fail;refine (ID _ _ _ _ 70133 112 W25 HE.o gn.o (Jh Hb.o aK) (by decide)).mono ?_;rintro e w26 ⟨v26,rfl,qjD,UW⟩;obtain⟨EE,EG,EA,EC,ED,EF,E8,EB,_,_,rfl,-⟩:=cf UW;have I1:=zh (HM8.o.grow qjD)
  have XN:=zh (qka.o.grow qjD);have hpq:=qxY b k;rw[HK.o] at hpq;rw[hpq] at UW;have vqi:=zh UW;clear UW qjD HM8 qka SU HE gn y0 y1 y2 y3 t0 t1 t2 t3 hpq;go_wp2_with fail;refine (nu _ (ju b (k+1)).1 70245 5200 w26 vqi.o (by decide) (Jd Hb.o (rp Hb.o) (k+1) (by omega)).1).mono ?_;rintro e w27 ⟨v27,rfl,qjC,qjF⟩;obtain⟨Yv,Yx,Yr,Yt,Yu,Yw,Yq,Ys,_,_,rfl,-⟩:=cf qjF;have AV:=zh (I1.o.grow qjC);have SS:=zh (XN.o.grow qjC)
  have vqh:=zh (qjF.more (K':=67530) (by decide));clear qjF qjC I1 XN vqi;obtain⟨kA,kC,ku,k7,k8,kB,kt,ky,o0,o1,o2,o3,oE⟩:=AV.o.r8.read (i:=ii) (by omega);have ng:=AV.o.r8.frozen (ii*4);have na:=AV.o.r8.frozen (ii*4+1);have mZ:=AV.o.r8.frozen (ii*4+2);have mY:=AV.o.r8.frozen (ii*4+3);clear oE;go_upto_region 20 with fail;have qk9:=zh (AV.o.put8 (i:=ii) (o:=ii*4) i1 rfl vqh.o);obtain⟨MR,MU,Mk,MP,MQ,MS,Mj,MO,wT,Aj⟩:=SS.o
  have XM:=zh (SS.o.far4 (D:=g8) (o:=ii*4) (by have:=AV.o.r8.lt;have:=qj7.o;omega) (AV.o.r8.kind (i:=ii) i1) (.bool Yv) (.slice Yx Yr Yt) (.bool Yu) (.slice Yw Yq Ys));clear AV vqh SS wT Aj o0 o1 o2 o3 ng na mZ mY;generalize (((((w27).setCell ⟨g8,ii*4,none⟩ (.bool Yv)).setCell ⟨g8,ii*4+1,none⟩ (.slice Yx Yr Yt)).setCell ⟨g8,ii*4+2,none⟩ (.bool Yu)).setCell ⟨g8,ii*4+3,none⟩ (.slice Yw Yq Ys))=W28 at*
  obtain⟨MR,MU,Mk,MP,MQ,MS,Mj,MO,wT,Aj⟩:=XM.o;obtain⟨t0,t1,t2,t3⟩:=wT.c4;have gn:=zh Aj;have lQ:(sr-sq).natAbs≤1152921504606846976:=by omega
  have hpq:=qxX b k;rw[HN.o] at hpq;have HPQ:=zh hpq;clear hpq;have HFi:=zh (Jd Hb.o (rp Hb.o) (k+1) (by omega)).2;clear wT Aj;have ut0:=YL t0;have ut1:=YL t1;have ut2:=YL t2;have ut3:=YL t3;clear t0 t1 t2 t3;refine af 9 (fun jx=>if jx=3 then some (gI [sr-sq]) else if jx=4 then some (jw (Zu 1 [sr-sq]) (30)) else if jx=6 then some (jw ((ju b (k+1)).2) (142)) else if jx=7 then some (jw ((ju b (k+1)).2) (51)) else none) (by kernel_rfl) (by kernel_rfl) ?_
  simp only[aO,aR,aP,aQ];refine zw 3 ?_;simp only[aO,aR,aP,aQ]
  repeat (go_big_quiet_step (fail))
  refine YE ?_;refine aX rfl rfl (fun w1 ak _=>fm (T:=3) (l:=[sr-sq]) (yU rfl) (by go_simp)) ?_;rintro _ ⟨vwn,rfl⟩;simp only[Act.put,aw,av,au];refine ae rfl rfl ?_ ?_
  ·intro w1 ak hk;have vq5:ct w1 w1.heap.size (.slice (some ⟨vwn,0,none⟩) 1 1) [sr-sq]:=hk 147 zk;have hC:=fF 1 _ [sr-sq] w1 vq5 (yU rfl) (BG lQ) (by decide) (by decide);exact zc (Zg hC)
  rintro _ ⟨Fv,Fx,Fq,Ft,Fu,Fw,Fp,Fs,rfl⟩;simp only[Act.put,aw,av,au];refine zw 1 ?_;simp only[aO,aR,aP,aQ]
  repeat (go_big_quiet_step (fail))
  refine YE ?_;refine ae rfl rfl ?_ ?_
  ·intro w1 ak hk;have qjL:ExqAt w1 w1.heap.size (.agg (zD Fv Fx Fq Ft Fu Fw Fp Fs)) (Zu 1 [sr-sq]) (30):=hk 148 zk;have hC:=ID _ _ _ _ 30 112 w1 qjL (gn.o.grow ak) (Jh Hb.o aK) (by decide);rw[HPQ.o] at hC;exact zc (Zg hC)
  rintro _ ⟨vu,vw,vm,vp,vt,vv,vk,vn,rfl⟩;simp only[Act.put,aw,av,au];refine ae rfl rfl ?_ ?_
  ·intro w1 ak hk;have Ve:ExqAt w1 w1.heap.size (.agg (zD vu vw vm vp vt vv vk vn)) ((ju b (k+1)).2) (142):=hk 150 zk;have hC:=nu _ _ 142 38 w1 Ve (by decide) HFi.o;exact zc (Zg hC)
  rintro _ ⟨PF,PH,P4,P8,PE,PG,P3,P5,rfl⟩;simp only[Act.put,aw,av,au];refine zw 1 ?_;simp only[aO,aR,aP,aQ]
  repeat (go_big_quiet_step (fail))
  refine YE ?_;refine Zc ?_;intro w8 aT hF;have kk:ExqAt w8 w8.heap.size (.agg (zD PF PH P4 P8 PE PG P3 P5)) (ju b (k+1)).2 51:=hF 151;have qm:=zh (qk9.o.grow aT);have HE:=zh kk;clear hF kk aT qk9 XM gn ut0 ut1 ut2 ut3 HPQ HFi;obtain⟨kA,kC,ku,k7,k8,kB,kt,ky,o0,o1,o2,o3,oE⟩:=qm.o.r9.read (i:=ii) (by omega);have ng:=qm.o.r9.frozen (ii*4);have na:=qm.o.r9.frozen (ii*4+1);have mZ:=qm.o.r9.frozen (ii*4+2)
  have mY:=qm.o.r9.frozen (ii*4+3);clear oE;go_wp2_with fail;have qkk:Y0 (MoQ w (((((w8).setCell ⟨g9,ii*4,none⟩ (.bool PF)).setCell ⟨g9,ii*4+1,none⟩ (.slice PH P4 P8)).setCell ⟨g9,ii*4+2,none⟩ (.bool PE)).setCell ⟨g9,ii*4+3,none⟩ (.slice PG P3 P5)) b (zC b (some ⟨bs,os,none⟩) cs Al cl) g7 g8 g9 (tC b 0) (pF b (k+1)) (qF b (k+1))):=(qm.o.put9 (i:=ii) (o:=ii*4) i1 rfl HE.o).weak (fun _ _ _ h=>h) (fun j q _ h=>by
   unfold pF at h;unfold eu pF;rw[←Hii.o];by_cases e:j=k+1
   ·subst e;rw[if_pos (yA _)] at h;rw[if_pos rfl];exact h
   ·rw[if_neg e];by_cases e2:j≤k
    ·rw[if_pos (by omega)] at h;rw[if_pos e2];exact h
    rw[if_neg (by omega)] at h;cases h) (fun j q _ h=>by
   unfold qF at h;unfold eu qF;rw[←Hii.o];by_cases e:j=k+1
   ·subst e;rw[if_pos (yA _)] at h;rw[if_pos rfl];exact h
   rw[if_neg e];by_cases e2:j≤k
   ·rw[if_pos (by omega)] at h;rw[if_pos e2];exact h
   rw[if_neg (by omega)] at h;cases h)
  clear qm HE o0 o1 o2 o3 ng na mZ mY;go_roundw
  case rel=>exact⟨k+1,.inr (by omega),by go_num,qkk⟩
  have:=Hii.o;simp[intOf];omega
 skip
 have k1:¬(k:Int)+1<(b.sup.length:Int)-1:=by omega
 have Hkl:Y0 (¬k+2<b.sup.length):=aK;have v6:IntKind.i64.wrap ((b.sup.length:Int)-2)=((b.sup.length-1:Nat):Int)-1:=(yF _ (by omega)).trans (by omega);have HM1:Y0 (MoQ w wr b (zC b (some ⟨bs,os,none⟩) cs Al cl) g7 g8 g9 (tC b (b.sup.length-1-(b.sup.length-1))) (pF b k) (qF b k)):=by rw[Nat.sub_self];exact HM
 clear HM aK;go_wp2_with fail;go_loopw [15] (fun ix wr=>∃i:Nat,i+1≤b.sup.length∧ix=.int .i64 ((i:Int)-1)∧Y0 (MoQ w wr b (zC b (some ⟨bs,os,none⟩) cs Al cl) g7 g8 g9 (tC b (b.sup.length-1-i)) (pF b k) (qF b k))) (fun ix _=>(intOf ix).toNat)
 case atStart=>exact⟨b.sup.length-1,by omega,rfl,HM1⟩
 clear HM1;obtain⟨i,hi,rfl,HM⟩:=hrel;by_cases X3:2≤i
 ·skip
  obtain⟨p,rfl⟩:∃p,i=p+2:=⟨i-2,by omega⟩;obtain⟨jj,hjj⟩:=zo (p+1);obtain⟨ll,Mp⟩:=zo (p+2);have e1:((p+2:Nat):Int)-1=(jj:Int):=by omega
  rw[e1];have hj1:1≤jj:=by omega
  have i0:(0:Int)<(jj:Int):=by omega
  have i00:(0:Int)≤(jj:Int):=by omega
  have i4:(jj:Int)<(b.sup.length:Int):=by omega
  have i5:(0:Int)≤(ll:Int):=by omega
  have i6:(ll:Int)<(b.sup.length:Int):=by omega
  have v1:IntKind.i64.wrap ((jj:Int)+1)=(ll:Int):=(yF _ (by omega)).trans (by omega);have v2:IntKind.i64.wrap ((jj:Int)-1)=((jj:Nat):Int)-1:=yF _ (by omega);have Hjj:=zh hjj;have Hll:=zh Mp;have j1:jj<b.sup.length:=by omega
  have l1:ll<b.sup.length:=by omega
  have HMs:Y0 ((ju b jj).1-(ju b jj).2*Zx b ll=Zx b jj):=by
   unfold Y0
   have:=Q7 Hb.o (i:=jj) hj1 (by omega);rw[show jj+1=ll by omega] at this;exact this
  have HFi:=zh (Uz Hb.o j1);obtain⟨ab1,aA1,al1,ac1,ab2,aA2,al2,ac2,a0,a1,a2,a3,aE⟩:=HM.o.r8.read (i:=jj) j1;obtain⟨cb1,cA1,cl1,cc1,cb2,cA2,cl2,cc2,c0,c1,c2,c3,cE⟩:=HM.o.r9.read (i:=jj) j1;obtain⟨db1,dA1,dl1,dc1,db2,dA2,dl2,dc2,d0,d1,d2,d3,dE⟩:=HM.o.r7.read (i:=ll) l1;have HA:=zh (aE (ju b jj).1 (if_pos (by have:=Hkl.o;omega)));have HC:=zh (cE (ju b jj).2 (if_pos (by have:=Hkl.o;omega)));have HD:=zh (dE (Zx b ll) (if_pos (.inr (by omega))))
  clear aE cE dE e1 hjj Mp;go_upto_region 24 with fail;have uF:=YL a0;have uE:=YL a1;have uD:=YL a2;have uC:=YL a3;have Kl:=YL c0;have EK:=YL c1;have Kk:=YL c2;have B0:=YL c3;have MJ:=YL d0;have MI:=YL d1;have MH:=YL d2;have MG:=YL d3;clear a0 a1 a2 a3 c0 c1 c2 c3 d0 d1 d2 d3;refine af 19 (fun jx=>if jx=15 then some (jw ((ju b jj).2*Zx b ll) (67581)) else if jx=16 then some (jw (Zx b jj) (135112)) else if jx=17 then some (jw (Zx b jj) (67530)) else none) (by kernel_rfl) (by kernel_rfl) ?_
  simp only[aO,aR,aP,aQ];refine zw 15 ?_;simp only[aO,aR,aP,aQ]
  repeat (go_big_quiet_step (fail))
  refine YE ?_;refine ae rfl rfl ?_ ?_
  ·intro w1 ak hk;have hC:=qD _ _ _ _ 51 67530 w1 (HC.o.grow ak) (HD.o.grow ak) (by decide);exact zc (Zg hC)
  rintro _ ⟨qqH,qqJ,qqD,qqF,qqG,qqI,qqC,qqE,rfl⟩;simp only[Act.put,aw,av,au];refine ae rfl rfl ?_ ?_
  ·intro w1 ak hk;have vqZ:ExqAt w1 w1.heap.size (.agg (zD qqH qqJ qqD qqF qqG qqI qqC qqE)) ((ju b jj).2*Zx b ll) (67581):=hk 174 zk;have hC:=kq _ _ _ _ 67530 67581 w1 (HA.o.grow ak) vqZ (by decide);rw[HMs.o] at hC;exact zc (Zg hC)
  rintro _ ⟨qqz,qqB,qqv,qqx,qqy,qqA,qqu,qqw,rfl⟩;simp only[Act.put,aw,av,au];refine ae rfl rfl ?_ ?_
  ·intro w1 ak hk;have vqY:ExqAt w1 w1.heap.size (.agg (zD qqz qqB qqv qqx qqy qqA qqu qqw)) (Zx b jj) (135112):=hk 175 zk;have hC:=nu _ _ 135112 50647 w1 vqY (by decide) HFi.o;exact zc (Zg hC)
  rintro _ ⟨OT,OV,OP,OR,OS,OU,OO,OQ,rfl⟩;simp only[Act.put,aw,av,au];refine zw 1 ?_;simp only[aO,aR,aP,aQ]
  repeat (go_big_quiet_step (fail))
  refine YE ?_;refine Zc ?_;intro w8 aT hF;have kk:ExqAt w8 w8.heap.size (.agg (zD OT OV OP OR OS OU OO OQ)) (Zx b jj) 67530:=hF 176;have qm:=zh (HM.o.grow aT);have HE:=zh kk;clear hF kk aT HM HA HC HD HMs HFi uF uE uD uC Kl EK Kk B0 MJ MI MH MG;obtain⟨kA,kC,ku,k7,k8,kB,kt,ky,o0,o1,o2,o3,oE⟩:=qm.o.r7.read (i:=jj) j1;have ng:=qm.o.r7.frozen (jj*4);have na:=qm.o.r7.frozen (jj*4+1);have mZ:=qm.o.r7.frozen (jj*4+2)
  have mY:=qm.o.r7.frozen (jj*4+3);clear oE;go_wp2_with fail;have qkk:Y0 (MoQ w (((((w8).setCell ⟨g7,jj*4,none⟩ (.bool OT)).setCell ⟨g7,jj*4+1,none⟩ (.slice OV OP OR)).setCell ⟨g7,jj*4+2,none⟩ (.bool OS)).setCell ⟨g7,jj*4+3,none⟩ (.slice OU OO OQ)) b (zC b (some ⟨bs,os,none⟩) cs Al cl) g7 g8 g9 (tC b (b.sup.length-1-jj)) (pF b k) (qF b k)):=(qm.o.put7 (i:=jj) (o:=jj*4) j1 rfl HE.o).weak (fun j q hj h=>by
   unfold tC at h;unfold eu tC;by_cases e:j=jj
   ·subst e;rw[if_pos (by omega)] at h;rw[if_pos rfl];exact h
   rw[if_neg e];have h1:=Hjj.o;by_cases e2:j=0∨b.sup.length≤j+1+(b.sup.length-1-jj)
   ·rw[if_pos e2] at h;rw[if_pos (by omega)];exact h
   rw[if_neg e2] at h;cases h) (fun _ _ _ h=>h) (fun _ _ _ h=>h)
  clear qm HE o0 o1 o2 o3 ng na mZ mY;go_roundw
  case rel=>exact⟨jj,by omega,rfl,qkk⟩
  have:=Hjj.o;simp[intOf];omega
 skip
 have k2:¬(0:Int)<(i:Int)-1:=by omega
 have HR:=zh (HM.o.r7.weak (f':=fun j=>some (Zx b j)) (fun j q hj h=>by
  unfold tC;rw[if_pos (by omega)];exact h))
 have HBE:=zh HM.o.bel;clear HM;go_wp2_with fail;refine YF (results_tmp rfl _ _ _) (by rfl) ?_;exact⟨HBE.o,_,rfl,HR.o⟩
