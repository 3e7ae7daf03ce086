/- Lemmas. -/
import Derived.Test.YtfhmbechennkbaaGreatDoorR5
namespace Go.Proofs.YtfhmbechennkbaaGreatDoor
set_option maxRecDepth 100000
set_option maxHeartbeats 40000000
open Go.RowKit Go.Shelf
theorem VC (b:BeamT):Zx b 0=bA b:=if_pos rfl
theorem VF {b:BeamT} (hb:BeamOk b) (ht:cJ b=true):Zx b (b.sup.length-1)=bA (au b):=by
 have h1:=hb.sup1
 unfold Zx
 by_cases h:b.sup.length=1
 ·rw[if_pos (by omega)]
  unfold cJ at ht
  rw[if_pos h] at ht
  have:=yG ht
  grind
 rw[if_neg (by omega),show b.sup.length-1-(b.sup.length-1)=0 by omega]
 rfl
theorem J0 {b:BeamT} (hb:BeamOk b) {i:Nat} (h0:1≤i) (hi:i+1<b.sup.length):0<bH b i:=by
 have h1:=Fe hb i h0 hi
 have h2:=pQ (j8 hb (i:=i+1) (by omega) hi).1
 have h3:(0:Rat)<1:=by decide
 grind
theorem sB {b:BeamT} (hb:BeamOk b):∀ i,1≤i→i+1<b.sup.length→bH b i≠0:=fun i h0 hi=>by
 have:=J0 hb h0 hi
 grind
theorem VE {b:BeamT} (hb:BeamOk b) {i:Nat} (h1:1≤i) (h2:i+1<b.sup.length):(kf b i).1-(kf b i).2*Zx b (i+1)=Zx b i:=by
 have h:=Ms b (sB hb) (b.sup.length-1-(i+1)) (by omega)
 have h':=Ms b (sB hb) (b.sup.length-1-(i+1)+1) (by omega)
 unfold Zx
 rw[if_neg (by omega),if_neg (by omega),show b.sup.length-1-i=b.sup.length-1-(i+1)+1 by omega,← h,← h',qzo,show b.sup.length-2-(b.sup.length-1-(i+1))=i by omega]
theorem Nr {b:BeamT} (hb:BeamOk b) {i:Nat} (hi:i+2<b.sup.length):0<qE b (kf b i).2 (i+1):=by
 rw[(Nj b (sB hb) i hi).1]
 exact J0 hb (by omega) (by omega)
theorem rI (k:Int):Zu 1 [k]=(k:Rat):=by
 unfold Zu
 rw[show dD [k]=k by simp[dD],Rat.divInt_eq_div,Rat.intCast_one]
 grind
theorem OV (k m:Int):Zu 1 [k,m]=((k*m:Int):Rat):=by
 unfold Zu
 rw[Dd,Rat.divInt_eq_div,Rat.intCast_one]
 grind
theorem qqI (b:BeamT) (k:Nat):(0:Rat)-(cZ b (ak b k) (ak b (k+1)) true+cZ b (ak b (k+1)) (ak b (k+2)) false)=kQ b (k+1):=by
 show _=((0:Int):Rat)-cZ b (ak b k) (ak b (k+1)) true-cZ b (ak b (k+1)) (ak b (k+2)) false
 generalize cZ b (ak b k) (ak b (k+1)) true=x
 generalize cZ b (ak b (k+1)) (ak b (k+2)) false=y
 grind
theorem qxy (b:BeamT) (k:Nat):(kQ b (k+1)-Zu 1 [bd b (k+1)]*(kf b k).1) / qE b (kf b k).2 (k+1)=(kf b (k+1)).1:=by
 rw[rI]
 rfl
theorem qxx (b:BeamT) (k:Nat):Zu 1 [bd b (k+2)] / qE b (kf b k).2 (k+1)=(kf b (k+1)).2:=by
 rw[rI]
 rfl
def uS (b:BeamT) (m:Nat):Nat→Option Rat:=fun j=>if j=0∨b.sup.length≤j+1+m then some (Zx b j) else none
def pF (b:BeamT) (k:Nat):Nat→Option Rat:=fun j=>if j≤k then some (kf b j).1 else none
def qF (b:BeamT) (k:Nat):Nat→Option Rat:=fun j=>if j≤k then some (kf b j).2 else none
section
variable {w w':World} {g n:Nat} {f:Nat→Option Rat} {K:Nat}
def ru (w:World) (D o:Nat):Prop:=∃ b1 A1 l1 c1 b2 A2 l2 c2,w.cell? ⟨D,o,none⟩=some (.bool b1)∧w.cell? ⟨D,o+1,none⟩=some (.slice A1 l1 c1)∧w.cell? ⟨D,o+2,none⟩=some (.bool b2)∧w.cell? ⟨D,o+3,none⟩=some (.slice A2 l2 c2)
theorem DgTo.kind {B D o:Nat} {v:Value} {x k:Nat} (h:DgTo w B v x k) (hk:ru w D o) (x0 x1 x2 x3:Value):DgTo ((((w.setCell ⟨D,o,none⟩ x0).setCell ⟨D,o+1,none⟩ x1).setCell ⟨D,o+2,none⟩ x2).setCell ⟨D,o+3,none⟩ x3) B v x k:=by
 obtain⟨b1,A1,l1,c1,b2,A2,l2,c2,k0,k1,k2,k3⟩:=hk
 exact DgTo.set4 h k0 k1 k2 k3 (fun z=>by simp) (fun z=>by simp) (fun z=>by simp) (fun z=>by simp) x0 x1 x2 x3
theorem ExqAt.kind {D o:Nat} {v:Value} {q:Rat} {K':Nat} (h:ExqAt w w.heap.size v q K') (hk:ru w D o) (x0 x1 x2 x3:Value) :
  ExqAt ((((w.setCell ⟨D,o,none⟩ x0).setCell ⟨D,o+1,none⟩ x1).setCell ⟨D,o+2,none⟩ x2).setCell ⟨D,o+3,none⟩ x3) ((((w.setCell ⟨D,o,none⟩ x0).setCell ⟨D,o+1,none⟩ x1).setCell ⟨D,o+2,none⟩ x2).setCell ⟨D,o+3,none⟩ x3).heap.size v q K':=by
 obtain⟨_,_,_,_,N,E,e,h4,h5,h6⟩:=h
 have oI:=fun {v:Value} {x m:Nat} (h:DgTo w w.heap.size v x m)=>DgTo.mono (DgTo.kind h hk x0 x1 x2 x3) (show w.heap.size≤((((w.setCell ⟨D,o,none⟩ x0).setCell ⟨D,o+1,none⟩ x1).setCell ⟨D,o+2,none⟩ x2).setCell ⟨D,o+3,none⟩ x3).heap.size by simp[World.setCell])
 exact⟨_,_,_,_,N,E,e,⟨h4.1,oI h4.2⟩,⟨h5.1,oI h5.2⟩,h6⟩
theorem EqRow.kind (h:EqRow w g n f K) {i:Nat} (hi:i<n):ru w g (i*4):=by
 obtain⟨b1,A1,l1,c1,b2,A2,l2,c2,k0,k1,k2,k3,-⟩:=h.read hi
 exact⟨b1,A1,l1,c1,b2,A2,l2,c2,k0,k1,k2,k3⟩
theorem EqBox.kind {D:Nat} {q:Rat} (h:EqBox w D q K):ru w D 0:=by
 obtain⟨b1,A1,l1,c1,b2,A2,l2,c2,hD,-⟩:=h
 exact⟨b1,A1,l1,c1,b2,A2,l2,c2,hD.cell 0,hD.cell 1,hD.cell 2,hD.cell 3⟩
theorem Blk.kind {D:Nat} {b1:Bool} {A1:Option Addr} {l1 c1:Nat} {b2:Bool} {A2:Option Addr} {l2 c2:Nat} (hD:Blk w D 175 (zD b1 A1 l1 c1 b2 A2 l2 c2)):ru w D 0 :=
 ⟨b1,A1,l1,c1,b2,A2,l2,c2,hD.cell 0,hD.cell 1,hD.cell 2,hD.cell 3⟩
theorem EqRow.far4 (h:EqRow w g n f K) {D o:Nat} (hg:g≠D) (hk:ru w D o) (x0 x1 x2 x3:Value):EqRow ((((w.setCell ⟨D,o,none⟩ x0).setCell ⟨D,o+1,none⟩ x1).setCell ⟨D,o+2,none⟩ x2).setCell ⟨D,o+3,none⟩ x3) g n f K:=by
 obtain⟨es,h1,h2,h3⟩:=h
 exact⟨es,h1,h2.far4o hg o x0 x1 x2 x3,fun j hj q hq=>(h3 j hj q hq).kind hk x0 x1 x2 x3⟩
theorem EqBox.far4 {q:Rat} (h:EqBox w g q K) {D o:Nat} (hg:g≠D) (hk:ru w D o) (x0 x1 x2 x3:Value):EqBox ((((w.setCell ⟨D,o,none⟩ x0).setCell ⟨D,o+1,none⟩ x1).setCell ⟨D,o+2,none⟩ x2).setCell ⟨D,o+3,none⟩ x3) g q K:=by
 obtain⟨b1,A1,l1,c1,b2,A2,l2,c2,h1,h2⟩:=h
 exact⟨b1,A1,l1,c1,b2,A2,l2,c2,h1.far4o hg o x0 x1 x2 x3,h2.kind hk x0 x1 x2 x3⟩
end
structure MoQ (w W:World) (b:BeamT) (bx:Array Value) (g7 g8 g9:Nat) (f7 f8 f9:Nat→Option Rat):Prop where
 bm:Blk W w.heap.size 122 bx
 r7:EqRow W g7 b.sup.length f7 67530
 r8:EqRow W g8 b.sup.length f8 67530
 r9:EqRow W g9 b.sup.length f9 51
 bel:Below w.heap.size w W
 b7:w.heap.size<g7
 b8:w.heap.size<g8
 b9:w.heap.size<g9
 n78:g7≠g8
 n79:g7≠g9
 n89:g8≠g9
section
variable {w W W':World} {b:BeamT} {bx:Array Value} {g7 g8 g9:Nat} {f7 f8 f9:Nat→Option Rat}
theorem MoQ.grow (h:MoQ w W b bx g7 g8 g9 f7 f8 f9) (hb:Below W.heap.size W W'):MoQ w W' b bx g7 g8 g9 f7 f8 f9 :=
 ⟨h.bm.below hb h.bm.lt,h.r7.grow hb,h.r8.grow hb,h.r9.grow hb,h.bel.trans (hb.mono h.bel.size),h.b7,h.b8,h.b9,h.n78,h.n79,h.n89⟩
theorem MoQ.weak (h:MoQ w W b bx g7 g8 g9 f7 f8 f9) {f7' f8' f9':Nat→Option Rat} (h7:∀ j q,j<b.sup.length→f7' j=some q→f7 j=some q) (h8:∀ j q,j<b.sup.length→f8' j=some q→f8 j=some q) (h9:∀ j q,j<b.sup.length→f9' j=some q→f9 j=some q):MoQ w W b bx g7 g8 g9 f7' f8' f9' :=
 ⟨h.bm,h.r7.weak h7,h.r8.weak h8,h.r9.weak h9,h.bel,h.b7,h.b8,h.b9,h.n78,h.n79,h.n89⟩
variable {b1:Bool} {A1:Option Addr} {l1 c1:Nat} {b2:Bool} {A2:Option Addr} {l2 c2:Nat} {q:Rat}
theorem MoQ.put7 (h:MoQ w W b bx g7 g8 g9 f7 f8 f9) {i o:Nat} (hi:i<b.sup.length) (ho:i*4=o) (hE:ExqAt W W.heap.size (.agg (zD b1 A1 l1 c1 b2 A2 l2 c2)) q 67530) :
  MoQ w ((((W.setCell ⟨g7,o,none⟩ (.bool b1)).setCell ⟨g7,o+1,none⟩ (.slice A1 l1 c1)).setCell ⟨g7,o+2,none⟩ (.bool b2)).setCell ⟨g7,o+3,none⟩ (.slice A2 l2 c2)) b bx g7 g8 g9 (eh f7 i q) f8 f9:=by
 subst ho
 have hk:=h.r7.kind hi
 have h1:=h.b7
 have h2:=h.n78
 have h3:=h.n79
 exact⟨h.bm.far4o (by omega) _ _ _ _ _,h.r7.write hi hE,h.r8.far4 (by omega) hk _ _ _ _,h.r9.far4 (by omega) hk _ _ _ _,dN h.bel (by omega) _ _ _ _ _,h.b7,h.b8,h.b9,h.n78,h.n79,h.n89⟩
theorem MoQ.put8 (h:MoQ w W b bx g7 g8 g9 f7 f8 f9) {i o:Nat} (hi:i<b.sup.length) (ho:i*4=o) (hE:ExqAt W W.heap.size (.agg (zD b1 A1 l1 c1 b2 A2 l2 c2)) q 67530) :
  MoQ w ((((W.setCell ⟨g8,o,none⟩ (.bool b1)).setCell ⟨g8,o+1,none⟩ (.slice A1 l1 c1)).setCell ⟨g8,o+2,none⟩ (.bool b2)).setCell ⟨g8,o+3,none⟩ (.slice A2 l2 c2)) b bx g7 g8 g9 f7 (eh f8 i q) f9:=by
 subst ho
 have hk:=h.r8.kind hi
 have h1:=h.b8
 have h2:=h.n78
 have h3:=h.n89
 exact⟨h.bm.far4o (by omega) _ _ _ _ _,h.r7.far4 (by omega) hk _ _ _ _,h.r8.write hi hE,h.r9.far4 (by omega) hk _ _ _ _,dN h.bel (by omega) _ _ _ _ _,h.b7,h.b8,h.b9,h.n78,h.n79,h.n89⟩
theorem MoQ.put9 (h:MoQ w W b bx g7 g8 g9 f7 f8 f9) {i o:Nat} (hi:i<b.sup.length) (ho:i*4=o) (hE:ExqAt W W.heap.size (.agg (zD b1 A1 l1 c1 b2 A2 l2 c2)) q 51) :
  MoQ w ((((W.setCell ⟨g9,o,none⟩ (.bool b1)).setCell ⟨g9,o+1,none⟩ (.slice A1 l1 c1)).setCell ⟨g9,o+2,none⟩ (.bool b2)).setCell ⟨g9,o+3,none⟩ (.slice A2 l2 c2)) b bx g7 g8 g9 f7 f8 (eh f9 i q):=by
 subst ho
 have hk:=h.r9.kind hi
 have h1:=h.b9
 have h2:=h.n79
 have h3:=h.n89
 exact⟨h.bm.far4o (by omega) _ _ _ _ _,h.r7.far4 (by omega) hk _ _ _ _,h.r8.far4 (by omega) hk _ _ _ _,h.r9.write hi hE,dN h.bel (by omega) _ _ _ _ _,h.b7,h.b8,h.b9,h.n78,h.n79,h.n89⟩
theorem MoQ.far (h:MoQ w W b bx g7 g8 g9 f7 f8 f9) {D:Nat} (h0:w.heap.size<D) (h1:g7≠D) (h2:g8≠D) (h3:g9≠D) (hk:ru W D 0) (x0 x1 x2 x3:Value) :
  MoQ w ((((W.setCell ⟨D,0,none⟩ x0).setCell ⟨D,1,none⟩ x1).setCell ⟨D,2,none⟩ x2).setCell ⟨D,3,none⟩ x3) b bx g7 g8 g9 f7 f8 f9 :=
 ⟨h.bm.far4o (by omega) 0 _ _ _ _,h.r7.far4 h1 hk _ _ _ _,h.r8.far4 h2 hk _ _ _ _,h.r9.far4 h3 hk _ _ _ _,dN h.bel (by omega) 0 _ _ _ _,h.b7,h.b8,h.b9,h.n78,h.n79,h.n89⟩
end
def Yb (b:BeamT) (w:World) (e:Ending) (w':World):Prop:=Below w.heap.size w w'∧∃ g,e = .returned (.slice (some ⟨g,0,none⟩) b.sup.length b.sup.length)∧EqRow w' g b.sup.length (fun j=>some (Zx b j)) 67530
theorem IJ:(Tryz.prog.info? 175).map (fun i=>(i.zero,i.size,i.bytes))=some (some (.agg (zD false none 0 0 false none 0 0)),4,64):=by kernel_rfl
theorem Ga {b:BeamT} (hb:BeamOk b):ak (au b) 0=b.len-ak b (b.sup.length-1):=by
 have h1:=hb.sup1
 unfold ak au
 simp only[List.getD_eq_getElem?_getD,List.getElem?_map]
 rw[List.getElem?_reverse (by omega),Nat.sub_zero,yM (by omega)]
 rfl
theorem uC {b:BeamT} (hb:BeamOk b):(0:Rat)-dF (au b) (b.len-ak b (b.sup.length-1))=bA (au b):=by
 rw[tG,Ga hb]
 rfl
theorem qqa {b:BeamT} (hb:BeamOk b) {i:Nat} (hi:i<b.sup.length):bT (Zx b i) 50647:=Pg hb hi
theorem CL {x:Int} (h1:x.natAbs≤1152921504606846976):∀ z∈[x],z.natAbs≤1152921504606846976:=fun z hz=>by
 simp at hz
 rw[hz]
 exact h1
theorem OC (v:Value) (b:BeamT) (w:World) (hv:BeamAt w w.heap.size v b) (hb:BeamOk b) (ht:cJ b=true) (hT:∀ (u:Value) (w1:World),BeamAt w1 w1.heap.size u b→Calls Tryz.prog 204 #[u] w1 (TurnedPost b w1)) :
  Calls Tryz.prog 131 #[v] w (Yb b w):=by
 have Mz:=hv
 obtain⟨As,cs,Al,cl,rfl,hS,-⟩:=hv
 obtain⟨_,_,e,_,mR,uD⟩:=hS.open_
 injection e with e1 _ e2
 subst e1 e2
 have h1:=hb.sup1
 have h4:=hb.sup 0 h1.1
 have h5:=hb.sup (b.sup.length-1) (by omega)
 unfold maxLen at mR
 obtain⟨bs,os,rfl,ip,D6⟩:=uD 0 h1.1
 have lq:Y0 (∀ j,j<b.sup.length→w.cell? ⟨bs,os+j,none⟩=some (.int .i64 (ak b j))):=fun j hj=>by
  have h:=D6 j hj
  unfold ak
  rw[yN,yM hj]
  exact h
 have Hb:=zh hb
 have Yj:=zh ht
 have HT:=zh hT
 have HA0:=zh h4
 have HA1:=zh h5
 have h5l:=hb.len.2
 have bw:=zh ((yB _ w).alloc (yA _) (.cells (zC b (some ⟨bs,os,none⟩) cs Al cl) 122))
 have HV:=zh (Mz.grow bw.o)
 have HVw:=zh Mz
 have bZ:=zh (Blk.new w 122 (zC b (some ⟨bs,os,none⟩) cs Al cl))
 have z0:=(bw.o.cell (p:=⟨bs,os+0,none⟩) ip).trans (lq.o 0 h1.1)
 rw[Nat.add_zero] at z0
 have s0:(0:Int)<(b.sup.length:Int):=by omega
 obtain⟨s3,s1⟩:=h1
 clear uD hb hS hT Mz h4 h5 D6 ht
 go_enter Tryz.func131,Tryz.ntmps131
 go_upto_region 1 with fail
 generalize w.alloc (.cells (zC b (some ⟨bs,os,none⟩) cs Al cl) 122)=W1 at *
 obtain⟨y0,y1,y2,y3,y4⟩:=bZ.o.c5
 generalize JX:ak b 0=sa at *
 have Zv:=zh JX
 clear JX
 go_upto_region 3 with fail
 have rj:=YL y0
 have ri:=YL y1
 have rh:=YL y2
 have rf:=YL y3
 have YP:=YL y4
 have MN:=YL z0
 clear y0 y1 y2 y3 y4 z0
 refine ag 8 (fun jx=>if jx=0 then some (jb (0) (30)) else if jx=5 then some (jb (dF b sa) (1270)) else if jx=6 then some (jb (0-dF b sa) (1301)) else if jx=7 then some (gAq W1.heap.size) else none) (by kernel_rfl) (by kernel_rfl) ?_
 simp only[aU,aT,aW,aX]
 refine af rfl rfl ?_ ?_
 ·intro w1 ao hk
  have hC:=wh w1
  exact⟨132,#[],by go_simp,Zg hC⟩
 rintro _ ⟨CZ,Db,CV,CX,CY,Da,CU,CW,rfl⟩
 simp only[Act.put,aJ,aI,aH]
 refine ae 4 (by kernel_rfl) (by rfl) (by decide) ?_
 simp only[aU,aT,aW,aX]
 repeat (go_big_quiet_step (fail))
 refine YH ?_
 refine af rfl rfl ?_ ?_
 ·intro w1 ao hk
  have hC:=K3 _ b sa w1 (HV.o.grow ao) Hb.o HA0.o.1 HA0.o.2
  exact⟨168,#[.agg (zC b (some ⟨bs,os,none⟩) cs Al cl),.int .i64 sa],by go_simp,Zg hC⟩
 rintro _ ⟨qw5,qw7,qw1,qw3,qw4,qw6,qw0,qw2,rfl⟩
 simp only[Act.put,aJ,aI,aH]
 refine af rfl rfl ?_ ?_
 ·intro w1 ao hk
  have QM:ExqAt w1 w1.heap.size (.agg (zD CZ Db CV CX CY Da CU CW)) (0) (30):=hk 20 (yG (by kernel_rfl))
  have h25:ExqAt w1 w1.heap.size (.agg (zD qw5 qw7 qw1 qw3 qw4 qw6 qw0 qw2)) (dF b sa) (1270):=hk 25 (yG (by kernel_rfl))
  have hC:=kh _ _ 0 (dF b sa) 30 1270 w1 QM h25 (by decide)
  exact⟨136,#[.agg (zD CZ Db CV CX CY Da CU CW),.agg (zD qw5 qw7 qw1 qw3 qw4 qw6 qw0 qw2)],by go_simp,Zg hC⟩
 rintro _ ⟨Nb,Nf,MX,MZ,Na,Nc,MW,MY,rfl⟩
 simp only[Act.put,aJ,aI,aH]
 refine br rfl rfl (fun w1 ao _=>vE ao.size (by go_simp)) ?_
 rintro _ ⟨g5,rfl⟩
 simp only[Act.put,aJ,aI,aH]
 refine Zc ?_
 intro w8 aM hF
 have jB:ExqAt w8 w8.heap.size (.agg (zD Nb Nf MX MZ Na Nc MW MY)) (0-dF b sa) 1301:=hF 26
 have h5:Ca W1.heap.size (.pointer (some ⟨g5,0,none⟩)) w8:=hF 5
 obtain⟨g5',e5,YZ,df⟩:=h5
 injection e5 with e5
 injection e5 with e5
 injection e5 with e5 _ _
 subst e5
 obtain⟨q0,q1,q2,q3⟩:=df.c4
 have vh:=df.frozen (0)
 have vg:=df.frozen (1)
 have vf:=df.frozen (2)
 have ve:=df.frozen (3)
 have Jh:(0:Rat)-dF b sa=bA b:=by rw[tG,Zv.o];rfl
 rw[Jh] at jB
 have QS:=zh (EqBox.first df jB)
 have dP:=zh (bw.o.trans (aM.mono bw.o.size))
 have aw:w.heap.size<W1.heap.size:=bZ.o.lt
 have lJ:=zh ((bZ.o.below aM bZ.o.lt).far4 (D:=g5) (by omega) (.bool Nb) (.slice Nf MX MZ) (.bool Na) (.slice Nc MW MY))
 have Y1:=zh (bC dP.o (show w.heap.size≤g5 by omega) (.bool Nb) (.slice Nf MX MZ) (.bool Na) (.slice Nc MW MY))
 have Hg5:Y0 (w.heap.size<g5):=by unfold Y0;omega
 clear hF jB df Jh rj ri rh rf YP MN aw aM YZ dP
 go_upto_region 4 with fail
 generalize (((((w8).setCell ⟨g5,0,none⟩ (.bool Nb)).setCell ⟨g5,1,none⟩ (.slice Nf MX MZ)).setCell ⟨g5,2,none⟩ (.bool Na)).setCell ⟨g5,3,none⟩ (.slice Nc MW MY))=W9 at *
 clear q0 q1 q2 q3 vh vg vf ve bZ bw HV
 have HV9:Y0 (BeamAt W9 W9.heap.size (.agg (zC b (some ⟨bs,os,none⟩) cs Al cl)) b):=HVw.o.grow Y1.o
 obtain⟨y0,y1,y2,y3,y4⟩:=lJ.o.c5
 have z0:=(Y1.o.cell (p:=⟨bs,os+(b.sup.length-1),none⟩) ip).trans (lq.o (b.sup.length-1) (by omega))
 have HTu:=zh (uC Hb.o)
 generalize ak b (b.sup.length-1)=sl at *
 have j0:(0:Int)≤(b.sup.length:Int)-1:=by omega
 have j1:(b.sup.length:Int)-1<(b.sup.length:Int):=by omega
 have j2:((b.sup.length:Int)-1).toNat=b.sup.length-1:=by omega
 have j5:IntKind.i64.wrap ((b.sup.length:Int)-1)=(b.sup.length:Int)-1:=yF _ (by omega)
 have rj:=YL y0
 have ri:=YL y1
 have rh:=YL y2
 have rf:=YL y3
 have YP:=YL y4
 have MN:=YL z0
 clear y0 y1 y2 y3 y4 z0
 refine ag 10 (fun jx=>if jx=0 then some (jb (0) (30)) else if jx=7 then some (jb (dF (au b) (b.len-sl)) (1270)) else if jx=8 then some (jb (0-dF (au b) (b.len-sl)) (1301)) else if jx=9 then some (gAq W9.heap.size) else none) (by kernel_rfl) (by kernel_rfl) ?_
 simp only[aU,aT,aW,aX]
 refine af rfl rfl ?_ ?_
 ·intro w1 ao hk
  have hC:=wh w1
  exact⟨132,#[],by go_simp,Zg hC⟩
 rintro _ ⟨Ig,Ii,Ia,Ic,Ie,Ih,H8,Ib,rfl⟩
 simp only[Act.put,aJ,aI,aH]
 refine ae 6 (by kernel_rfl) (by rfl) (by decide) ?_
 simp only[aU,aT,aW,aX]
 repeat (go_big_quiet_step (fail))
 refine YH ?_
 refine af rfl rfl ?_ ?_
 ·intro w1 ao hk
  have hC:=CQ _ b sl w1 (HV9.o.grow ao) Hb.o HA1.o.1 HA1.o.2 HT.o
  exact⟨169,#[.agg (zC b (some ⟨bs,os,none⟩) cs Al cl),.int .i64 sl],by go_simp,Zg hC⟩
 rintro _ ⟨qwX,qwZ,qwT,qwV,qwW,qwY,qwS,qwU,rfl⟩
 simp only[Act.put,aJ,aI,aH]
 refine af rfl rfl ?_ ?_
 ·intro w1 ao hk
  have h27:ExqAt w1 w1.heap.size (.agg (zD Ig Ii Ia Ic Ie Ih H8 Ib)) (0) (30):=hk 27 (yG (by kernel_rfl))
  have h34:ExqAt w1 w1.heap.size (.agg (zD qwX qwZ qwT qwV qwW qwY qwS qwU)) (dF (au b) (b.len-sl)) (1270):=hk 34 (yG (by kernel_rfl))
  have hC:=kh _ _ 0 (dF (au b) (b.len-sl)) 30 1270 w1 h27 h34 (by decide)
  exact⟨136,#[.agg (zD Ig Ii Ia Ic Ie Ih H8 Ib),.agg (zD qwX qwZ qwT qwV qwW qwY qwS qwU)],by go_simp,Zg hC⟩
 rintro _ ⟨Hy,H7,Hr,Hu,Hv,Hz,Hq,Ht,rfl⟩
 simp only[Act.put,aJ,aI,aH]
 refine br rfl rfl (fun w1 ao _=>vE ao.size (by go_simp)) ?_
 rintro _ ⟨g6,rfl⟩
 simp only[Act.put,aJ,aI,aH]
 refine Zc ?_
 intro w8 aM hF
 have jB:ExqAt w8 w8.heap.size (.agg (zD Hy H7 Hr Hu Hv Hz Hq Ht)) (0-dF (au b) (b.len-sl)) 1301:=hF 35
 have h5:Ca W9.heap.size (.pointer (some ⟨g6,0,none⟩)) w8:=hF 6
 obtain⟨g5',e5,YZ,df⟩:=h5
 injection e5 with e5
 injection e5 with e5
 injection e5 with e5 _ _
 subst e5
 obtain⟨q0,q1,q2,q3⟩:=df.c4
 have vh:=df.frozen (0)
 have vg:=df.frozen (1)
 have vf:=df.frozen (2)
 have ve:=df.frozen (3)
 rw[HTu.o] at jB
 have aw:g5<W9.heap.size:=by
  obtain⟨_,_,_,_,_,_,_,_,h,-⟩:=QS.o
  exact h.lt
 have et:w.heap.size<g5:=Hg5.o
 have HN6:=zh (EqBox.first df jB)
 have qzw:=zh ((QS.o.grow aM).far4 (D:=g6) (by omega) df.kind (.bool Hy) (.slice H7 Hr Hu) (.bool Hv) (.slice Hz Hq Ht))
 have dP:=zh (Y1.o.trans (aM.mono Y1.o.size))
 have F5:=zh ((lJ.o.below aM lJ.o.lt).far4 (D:=g6) (by omega) (.bool Hy) (.slice H7 Hr Hu) (.bool Hv) (.slice Hz Hq Ht))
 have qjo:=zh (bC dP.o (show w.heap.size≤g6 by omega) (.bool Hy) (.slice H7 Hr Hu) (.bool Hv) (.slice Hz Hq Ht))
 have Hg6:Y0 (w.heap.size<g6):=by unfold Y0;omega
 clear hF jB df HTu rj ri rh rf YP MN aw et aM YZ dP QS Y1 lJ
 go_upto_region 5 with fail
 simp only[Nat.zero_add] at qzw
 generalize (((((w8).setCell ⟨g6,0,none⟩ (.bool Hy)).setCell ⟨g6,1,none⟩ (.slice H7 Hr Hu)).setCell ⟨g6,2,none⟩ (.bool Hv)).setCell ⟨g6,3,none⟩ (.slice Hz Hq Ht))=W11 at *
 clear q0 q1 q2 q3 vh vg vf ve HV9
 obtain⟨iE,LP,qM,qL,tD⟩:=info_parts IJ
 have bV:iE.bytes*b.sup.length≤281474976710656:=by rw[tD];omega
 go_upto_region 6 with (at_make;refine wpList_make_full _ rfl _ _ 132 rfl _ 175 iE (.agg (zD false none 0 0 false none 0 0)) 4 Tryz.underlying132 LP qM qL .i64 .i64 _ _ b.sup.length rfl rfl rfl rfl bV (by unfold maxLen;omega) (Nat.le_refl _) ?_;intro Ri Wj NA)
 have HR7:Y0 (EqRow Ri W11.heap.size b.sup.length (fun _=>none) 67530):=EqRow.made Wj
 have uW:Below W11.heap.size W11 Ri:=(yB _ _).grown NA (yA _) (fun k hk=>by cases hk)
 have H5a:=zh (qzw.o.grow uW)
 have H6a:=zh (HN6.o.grow uW)
 have JI:Y0 (g5<W11.heap.size∧g6<W11.heap.size∧w.heap.size<W11.heap.size):=by
  obtain⟨_,_,_,_,_,_,_,_,h5,-⟩:=qzw.o
  obtain⟨_,_,_,_,_,_,_,_,h6,-⟩:=HN6.o
  exact⟨h5.lt,h6.lt,F5.o.lt⟩
 have HBm:=zh (F5.o.below uW F5.o.lt)
 have lr:=zh (qjo.o.trans (uW.mono qjo.o.size))
 clear Wj NA uW qzw HN6 F5 qjo
 obtain⟨g7,hg7⟩:∃ g7,W11.heap.size=g7:=⟨_,rfl⟩
 rw[hg7] at HR7 JI
 simp only[hg7]
 clear hg7
 obtain⟨gM,gQ,gH,gK,gL,gP,gG,gJ,hB,hE⟩:=H5a.o
 obtain⟨y0,y1,y2,y3⟩:=hB.c4
 have HE:=zh hE
 clear hB hE
 go_wp2_with fail
 refine (nK _ (bA b) 1301 50647 Ri HE.o (by decide) (aN (dM Hb.o) (by decide))).mono ?_
 rintro e w13 ⟨v13,rfl,Jf,qvt⟩
 obtain⟨Km,Ko,Ki,Kk,Kl,Kn,Kh,Kj,_,_,rfl,-⟩:=bR qvt
 have JM:=zh (HR7.o.grow Jf)
 have H6b:=zh (H6a.o.grow Jf)
 have qki:=zh (HBm.o.below Jf HBm.o.lt)
 have F4:=zh (lr.o.trans (Jf.mono lr.o.size))
 have qkg:=zh qvt
 obtain⟨fJ,fK,fH,fI,fw,fx,fu,fv,o0,o1,o2,o3,oE⟩:=JM.o.read (i:=0) (by omega)
 have lF:=JM.o.frozen (0)
 have lE:=JM.o.frozen (1)
 have lD:=JM.o.frozen (2)
 have lC:=JM.o.frozen (3)
 simp only[Nat.zero_mul,Nat.zero_add] at o0 o1 o2 o3
 clear y0 y1 y2 y3 HE qvt oE Jf H5a H6a HR7 HBm lr
 go_upto_region 7 with fail
 have qzd:ExqAt w13 w13.heap.size (.agg (zD Km Ko Ki Kk Kl Kn Kh Kj)) (Zx b 0) 67530:=by rw[VC];exact qkg.o
 have qje:=zh (JM.o.write (i:=0) (by omega) qzd)
 have H6c:=zh (H6b.o.far4 (D:=g7) (o:=0*4) (by have:=JI.o.2.1;omega) (JM.o.kind (i:=0) (by omega)) (.bool Km) (.slice Ko Ki Kk) (.bool Kl) (.slice Kn Kh Kj))
 have qzy:=zh (qki.o.far4o (D:=g7) (by have:=JI.o.2.2;omega) (0*4) (.bool Km) (.slice Ko Ki Kk) (.bool Kl) (.slice Kn Kh Kj))
 have qzz:=zh (dN (g:=g7) F4.o (by have:=JI.o.2.2;omega) (0*4) (.bool Km) (.slice Ko Ki Kk) (.bool Kl) (.slice Kn Kh Kj))
 simp only[Nat.zero_mul,Nat.zero_add] at qje H6c qzy qzz
 clear qkg qzd JM H6b qki F4 o0 o1 o2 o3 lF lE lD lC
 generalize (((((w13).setCell ⟨g7,0,none⟩ (.bool Km)).setCell ⟨g7,1,none⟩ (.slice Ko Ki Kk)).setCell ⟨g7,2,none⟩ (.bool Kl)).setCell ⟨g7,3,none⟩ (.slice Kn Kh Kj))=W14 at *
 obtain⟨gM,gQ,gH,gK,gL,gP,gG,gJ,hB,hE⟩:=H6c.o
 obtain⟨y0,y1,y2,y3⟩:=hB.c4
 have HE:=zh hE
 clear hB hE
 go_wp2_with fail
 refine (nK _ (bA (au b)) 1301 50647 W14 HE.o (by decide) (aN (dM (lT Hb.o)) (by decide))).mono ?_
 rintro e w15 ⟨v15,rfl,LR,qvs⟩
 obtain⟨zb1,zA1,zl1,Z6,zb2,zA2,zl2,Z5,_,_,rfl,-⟩:=bR qvs
 have M8:=zh (qje.o.grow LR)
 have qkh:=zh (qzy.o.below LR qzy.o.lt)
 have qkm:=zh (qzz.o.trans (LR.mono qzz.o.size))
 have qkf:=zh qvs
 obtain⟨fJ,fK,fH,fI,fw,fx,fu,fv,o0,o1,o2,o3,oE⟩:=M8.o.read (i:=b.sup.length-1) (by omega)
 have lF:=M8.o.frozen ((b.sup.length-1)*4)
 have lE:=M8.o.frozen ((b.sup.length-1)*4+1)
 have lD:=M8.o.frozen ((b.sup.length-1)*4+2)
 have lC:=M8.o.frozen ((b.sup.length-1)*4+3)
 clear y0 y1 y2 y3 HE qvs oE LR H6c qje qzy qzz
 go_upto_region 8 with fail
 have qza:ExqAt w15 w15.heap.size (.agg (zD zb1 zA1 zl1 Z6 zb2 zA2 zl2 Z5)) (Zx b (b.sup.length-1)) 67530:=by rw[VF Hb.o Yj.o];exact qkf.o
 have qjd:=zh (M8.o.write (i:=b.sup.length-1) (by omega) qza)
 have qjm:=zh (qkh.o.far4o (D:=g7) (by have:=JI.o.2.2;omega) ((b.sup.length-1)*4) (.bool zb1) (.slice zA1 zl1 Z6) (.bool zb2) (.slice zA2 zl2 Z5))
 have qjn:=zh (dN (g:=g7) qkm.o (by have:=JI.o.2.2;omega) ((b.sup.length-1)*4) (.bool zb1) (.slice zA1 zl1 Z6) (.bool zb2) (.slice zA2 zl2 Z5))
 clear qkf qza M8 qkh qkm o0 o1 o2 o3 lF lE lD lC
 generalize (((((w15).setCell ⟨g7,(b.sup.length-1)*4,none⟩ (.bool zb1)).setCell ⟨g7,(b.sup.length-1)*4+1,none⟩ (.slice zA1 zl1 Z6)).setCell ⟨g7,(b.sup.length-1)*4+2,none⟩ (.bool zb2)).setCell ⟨g7,(b.sup.length-1)*4+3,none⟩ (.slice zA2 zl2 Z5))=W16 at *
 go_upto_region 9 with (at_make;refine wpList_make_full _ rfl _ _ 132 rfl _ 175 iE (.agg (zD false none 0 0 false none 0 0)) 4 Tryz.underlying132 LP qM qL .i64 .i64 _ _ b.sup.length rfl rfl rfl rfl bV (by unfold maxLen;omega) (Nat.le_refl _) ?_;intro w17 az dL)
 have hb:Below W16.heap.size W16 w17:=(yB _ _).grown dL (yA _) (fun k hk=>by cases hk)
 have qn:Y0 (EqRow w17 W16.heap.size b.sup.length (fun _=>none) 67530):=EqRow.made az
 have qjc:=zh (qjd.o.grow hb)
 have qjl:=zh (qjm.o.below hb qjm.o.lt)
 have F3:=zh (qjn.o.trans (hb.mono qjn.o.size))
 have qv6:Y0 (g7<W16.heap.size):=qjd.o.lt
 clear az dL hb qjd qjm qjn
 obtain⟨g8,hg8⟩:∃ g8,W16.heap.size=g8:=⟨_,rfl⟩
 rw[hg8] at qn qv6
 simp only[hg8]
 clear hg8
 go_upto_region 10 with (at_make;refine wpList_make_full _ rfl _ _ 132 rfl _ 175 iE (.agg (zD false none 0 0 false none 0 0)) 4 Tryz.underlying132 LP qM qL .i64 .i64 _ _ b.sup.length rfl rfl rfl rfl bV (by unfold maxLen;omega) (Nat.le_refl _) ?_;intro w18 az dL)
 have hb:Below w17.heap.size w17 w18:=(yB _ _).grown dL (yA _) (fun k hk=>by cases hk)
 have Eb:Y0 (EqRow w18 w17.heap.size b.sup.length (fun _=>none) 51):=EqRow.made az
 have HM:Y0 (MoQ w w18 b (zC b (some ⟨bs,os,none⟩) cs Al cl) g7 g8 w17.heap.size (uS b 0) (fun _=>none) (fun _=>none)):=by
  have a1:=JI.o
  have a2:=qv6.o
  have a3:=qn.o.lt
  have a4:=qjc.o.lt
  exact⟨qjl.o.below hb qjl.o.lt,(qjc.o.grow hb).weak (fun j q hj h=>by
   unfold uS at h
   unfold eh
   by_cases e1:j=b.sup.length-1
   ·rw[if_pos e1,← e1]
    rw[if_pos (by omega)] at h
    exact h
   rw[if_neg e1]
   by_cases e2:j=0
   ·subst e2
    rw[if_pos rfl]
    rw[if_pos (by omega)] at h
    exact h
   rw[if_neg (by omega)] at h
   cases h),qn.o.grow hb,Eb.o,F3.o.trans (hb.mono F3.o.size),a1.2.2,by omega,by omega,by omega,by omega,by omega⟩
 clear az dL hb qjc qn Eb qjl F3 JI qv6 bV LP qM qL tD
 obtain⟨g9,hg9⟩:∃ g9,w17.heap.size=g9:=⟨_,rfl⟩
 rw[hg9] at HM
 simp only[hg9]
 clear hg9
 obtain⟨fJ,fK,fH,fI,fw,fx,fu,fv,o0,o1,o2,o3,oE⟩:=HM.o.r7.read (i:=0) (by omega)
 obtain⟨nb1,nA1,nl1,nc1,nb2,nA2,nl2,nc2,k0,k1,k2,k3,kE⟩:=HM.o.r8.read (i:=0) (by omega)
 have fk0:=HM.o.r8.frozen (0)
 have fk1:=HM.o.r8.frozen (1)
 have fk2:=HM.o.r8.frozen (2)
 have fk3:=HM.o.r8.frozen (3)
 simp only[Nat.zero_mul,Nat.zero_add] at o0 o1 o2 o3 k0 k1 k2 k3
 have HE:=zh (oE (Zx b 0) (if_pos (.inl rfl)))
 clear oE kE
 go_upto_region 11 with fail
 have JN:=zh (HM.o.put8 (i:=0) (o:=0) (by omega) rfl HE.o)
 simp only[Nat.zero_add] at JN
 clear HM HE o0 o1 o2 o3 k0 k1 k2 k3 fk0 fk1 fk2 fk3
 generalize (((((w18).setCell ⟨g8,0,none⟩ (.bool fJ)).setCell ⟨g8,1,none⟩ (.slice fK fH fI)).setCell ⟨g8,2,none⟩ (.bool fw)).setCell ⟨g8,3,none⟩ (.slice fx fu fv))=W19 at *
 go_wp2_with fail
 refine (wh W19).mono ?_
 rintro e w20 ⟨v20,rfl,qjG,qvr⟩
 obtain⟨Km,Ko,Ki,Kk,Kl,Kn,Kh,Kj,_,_,rfl,-⟩:=bR qvr
 have Z0:=zh (JN.o.grow qjG)
 have HE:=zh (qvr.more (K':=51) (by decide))
 clear qvr qjG JN
 obtain⟨nb1,nA1,nl1,nc1,nb2,nA2,nl2,nc2,k0,k1,k2,k3,kE⟩:=Z0.o.r9.read (i:=0) (by omega)
 have fk0:=Z0.o.r9.frozen (0)
 have fk1:=Z0.o.r9.frozen (1)
 have fk2:=Z0.o.r9.frozen (2)
 have fk3:=Z0.o.r9.frozen (3)
 simp only[Nat.zero_mul,Nat.zero_add] at k0 k1 k2 k3
 clear kE
 go_wp2_with fail
 have HM4:=Z0.o.put9 (i:=0) (o:=0) (by omega) rfl HE.o
 simp only[Nat.zero_add] at HM4
 have Oj:Y0 (MoQ w (((((w20).setCell ⟨g9,0,none⟩ (.bool Km)).setCell ⟨g9,1,none⟩ (.slice Ko Ki Kk)).setCell ⟨g9,2,none⟩ (.bool Kl)).setCell ⟨g9,3,none⟩ (.slice Kn Kh Kj)) b (zC b (some ⟨bs,os,none⟩) cs Al cl) g7 g8 g9 (uS b 0) (pF b 0) (qF b 0)):=HM4.weak (fun _ _ _ h=>h) (fun j q _ h=>by
  unfold pF at h
  by_cases e:j=0
  ·subst e
   rw[if_pos (yA _)] at h
   rw[← h]
   exact if_pos rfl
  ·rw[if_neg (by omega)] at h
   cases h) (fun j q _ h=>by
  unfold qF at h
  by_cases e:j=0
  ·subst e
   rw[if_pos (yA _)] at h
   rw[← h]
   exact if_pos rfl
  rw[if_neg (by omega)] at h
  cases h)
 clear Z0 HM4 HE k0 k1 k2 k3 fk0 fk1 fk2 fk3
 generalize (((((w20).setCell ⟨g9,0,none⟩ (.bool Km)).setCell ⟨g9,1,none⟩ (.slice Ko Ki Kk)).setCell ⟨g9,2,none⟩ (.bool Kl)).setCell ⟨g9,3,none⟩ (.slice Kn Kh Kj))=W21 at *
 go_loopw [10] (fun ix wr=>∃ k:Nat,(k=0∨k+2≤b.sup.length)∧ix = .int .i64 ((k:Int)+1)∧Y0 (MoQ w wr b (zC b (some ⟨bs,os,none⟩) cs Al cl) g7 g8 g9 (uS b 0) (pF b k) (qF b k))) (fun ix _=>b.sup.length-(intOf ix).toNat)
 case atStart=>exact⟨0,.inl rfl,rfl,Oj⟩
 clear Oj
 obtain⟨k,hk,rfl,HM⟩:=hrel
 have k9:(k:Int)+1≤10:=by omega
 have kk0:(0:Int)≤(k:Int):=yE _
 by_cases aB:k+2<b.sup.length
 ·skip
  have k1:(k:Int)+1<(b.sup.length:Int)-1:=by omega
  have a1:=(HM.o.bel.cell (p:=⟨bs,os+k,none⟩) ip).trans (lq.o k (by omega))
  obtain⟨ii,hii⟩:∃ ii,k+1=ii:=⟨_,rfl⟩
  have a2:=(HM.o.bel.cell (p:=⟨bs,os+(k+1),none⟩) ip).trans (lq.o (k+1) (by omega))
  have a3:=(HM.o.bel.cell (p:=⟨bs,os+(k+2),none⟩) ip).trans (lq.o (k+2) (by omega))
  have t0:=Hb.o.sup k (by omega)
  have t1:=Hb.o.inc k (by omega)
  have t2:=Hb.o.inc (k+1) (by omega)
  have t3:=Hb.o.sup (k+2) (by omega)
  have HK:Y0 (bd b (k+1)=ak b (k+1)-ak b k):=rfl
  have HN:Y0 (bd b (k+2)=ak b (k+2)-ak b (k+1)):=rfl
  have HRH:=zh (qqI b k)
  rw[show k+1+1=k+2 from rfl] at t2
  have HZ1:=zh (lq.o k (by omega))
  have HZ2:=zh (lq.o (k+1) (by omega))
  have HZ3:=zh (lq.o (k+2) (by omega))
  have e1:(k:Int)+1=(ii:Int):=by omega
  rw[e1] at k1 k9
  rw[e1]
  have i0:(0:Int)≤(ii:Int):=yE _
  have i4:(ii:Int)<(b.sup.length:Int):=by omega
  have i1:ii<b.sup.length:=by omega
  generalize ak b k=sp at *
  generalize ak b (k+1)=sq at *
  generalize ak b (k+2)=sr at *
  obtain⟨t01,t02⟩:=t0
  obtain⟨t31,t32⟩:=t3
  have i3:((k:Int)+2).toNat=k+2:=by omega
  have i5:(k:Int)<(b.sup.length:Int):=by omega
  have i7:(k:Int)+2<(b.sup.length:Int):=by omega
  have i9:(0:Int)≤(k:Int)+2:=by omega
  have v1:IntKind.i64.wrap ((ii:Int)-1)=(k:Int):=(yF _ (by omega)).trans (by omega)
  have v2:IntKind.i64.wrap ((ii:Int)+1)=(k:Int)+2:=(yF _ (by omega)).trans (by omega)
  have v3:IntKind.i64.wrap (sq-sp)=sq-sp:=yF _ (by omega)
  have v4:IntKind.i64.wrap (sr-sq)=sr-sq:=yF _ (by omega)
  rw[hii] at a2 HZ2
  have Hii:=zh hii
  clear hii e1
  go_upto_region 15 with fail
  go_quiet (fail)
  go_upto_region 16 with fail
  generalize NB:wr.drewN nq=W22 at *
  have Ys:Y0 (MoQ w W22 b (zC b (some ⟨bs,os,none⟩) cs Al cl) g7 g8 g9 (uS b 0) (pF b k) (qF b k)):=by rw[← NB];exact HM.o.grow (Zf (yB _ _) _)
  clear NB a1 a2 a3 HM
  obtain⟨y0,y1,y2,y3,y4⟩:=Ys.o.bm.c5
  have z1:=(Ys.o.bel.cell (p:=⟨bs,os+k,none⟩) ip).trans HZ1.o
  have z2:=(Ys.o.bel.cell (p:=⟨bs,os+ii,none⟩) ip).trans HZ2.o
  have z3:=(Ys.o.bel.cell (p:=⟨bs,os+(k+2),none⟩) ip).trans HZ3.o
  have HV:=zh (HVw.o.grow Ys.o.bel)
  have rj:=YL y0
  have ri:=YL y1
  have rh:=YL y2
  have rf:=YL y3
  have YP:=YL y4
  have uz1:=YL z1
  have uz2:=YL z2
  have uz3:=YL z3
  clear y0 y1 y2 y3 y4 z1 z2 z3
  refine ag 26 (fun jx=>if jx=0 then some (jb (0) (30)) else if jx=11 then some (jb (cZ b sp sq true) (1270)) else if jx=22 then some (jb (cZ b sq sr false) (1270)) else if jx=23 then some (jb (cZ b sp sq true+cZ b sq sr false) (2541)) else if jx=24 then some (jb (0-(cZ b sp sq true+cZ b sq sr false)) (2572)) else if jx=25 then some (gAq W22.heap.size) else none) (by kernel_rfl) (by kernel_rfl) ?_
  simp only[aU,aT,aW,aX]
  refine af rfl rfl ?_ ?_
  ·intro w1 ao hk
   have hC:=wh w1
   exact⟨132,#[],by go_simp,Zg hC⟩
  rintro _ ⟨uq,uu,uj,um,uo,us,ui,uk,rfl⟩
  simp only[Act.put,aJ,aI,aH]
  refine ae 10 (by kernel_rfl) (by rfl) (by decide) ?_
  simp only[aU,aT,aW,aX]
  repeat (go_big_quiet_step (fail))
  refine YH ?_
  refine af rfl rfl ?_ ?_
  ·intro w1 ao hk
   have hC:=qqO _ b sp sq w1 (HV.o.grow ao) Hb.o (by omega) (by omega) (by omega)
   exact⟨172,#[.agg (zC b (some ⟨bs,os,none⟩) cs Al cl),.int .i64 sq,.int .i64 sp],by go_simp,Zg hC⟩
  rintro _ ⟨qqV,qqX,qqR,qqT,qqU,qqW,qqQ,qqS,rfl⟩
  simp only[Act.put,aJ,aI,aH]
  refine ae 10 (by kernel_rfl) (by rfl) (by decide) ?_
  simp only[aU,aT,aW,aX]
  repeat (go_big_quiet_step (fail))
  refine YH ?_
  refine af rfl rfl ?_ ?_
  ·intro w1 ao hk
   have hC:=qqP _ b sq sr w1 (HV.o.grow ao) Hb.o (by omega) (by omega) (by omega)
   exact⟨172,#[.agg (zC b (some ⟨bs,os,none⟩) cs Al cl),.int .i64 sq,.int .i64 sr],by go_simp,Zg hC⟩
  rintro _ ⟨oq,ou,oe,oh,om,ot,od,og,rfl⟩
  simp only[Act.put,aJ,aI,aH]
  refine af rfl rfl ?_ ?_
  ·intro w1 ao hk
   have h97:ExqAt w1 w1.heap.size (.agg (zD qqV qqX qqR qqT qqU qqW qqQ qqS)) (cZ b sp sq true) (1270):=hk 97 (yG (by kernel_rfl))
   have WY:ExqAt w1 w1.heap.size (.agg (zD oq ou oe oh om ot od og)) (cZ b sq sr false) (1270):=hk 108 (yG (by kernel_rfl))
   have hC:=ft _ _ _ _ 1270 1270 w1 h97 WY (by decide)
   exact⟨133,#[.agg (zD qqV qqX qqR qqT qqU qqW qqQ qqS),.agg (zD oq ou oe oh om ot od og)],by go_simp,Zg hC⟩
  rintro _ ⟨nZ,oc,nV,nX,nY,oa,nU,nW,rfl⟩
  simp only[Act.put,aJ,aI,aH]
  refine af rfl rfl ?_ ?_
  ·intro w1 ao hk
   have h86:ExqAt w1 w1.heap.size (.agg (zD uq uu uj um uo us ui uk)) (0) (30):=hk 86 (yG (by kernel_rfl))
   have WX:ExqAt w1 w1.heap.size (.agg (zD nZ oc nV nX nY oa nU nW)) (cZ b sp sq true+cZ b sq sr false) (2541):=hk 109 (yG (by kernel_rfl))
   have hC:=kh _ _ _ _ 30 2541 w1 h86 WX (by decide)
   exact⟨136,#[.agg (zD uq uu uj um uo us ui uk),.agg (zD nZ oc nV nX nY oa nU nW)],by go_simp,Zg hC⟩
  rintro _ ⟨Lx,Lz,Lt,Lv,Lw,Ly,Ls,Lu,rfl⟩
  simp only[Act.put,aJ,aI,aH]
  refine br rfl rfl (fun w1 ao _=>vE ao.size (by go_simp)) ?_
  rintro _ ⟨C2,rfl⟩
  simp only[Act.put,aJ,aI,aH]
  refine Zc ?_
  intro w8 aM hF
  have jB:ExqAt w8 w8.heap.size (.agg (zD Lx Lz Lt Lv Lw Ly Ls Lu)) (0-(cZ b sp sq true+cZ b sq sr false)) 2572:=hF 110
  have h5:Ca W22.heap.size (.pointer (some ⟨C2,0,none⟩)) w8:=hF 13
  obtain⟨g5',e5,YZ,df⟩:=h5
  injection e5 with e5
  injection e5 with e5
  injection e5 with e5 _ _
  subst e5
  obtain⟨q0,q1,q2,q3⟩:=df.c4
  have vh:=df.frozen (0)
  have vg:=df.frozen (1)
  have vf:=df.frozen (2)
  have ve:=df.frozen (3)
  have Jh:=HRH.o
  rw[Jh] at jB
  have qzu:=zh (EqBox.first df jB)
  have HM7:=Ys.o.grow aM
  have l7:=Ys.o.r7.lt
  have l8:=Ys.o.r8.lt
  have l9:=Ys.o.r9.lt
  have l0:=Ys.o.b7
  have Zz:=zh (HM7.far (D:=C2) (by omega) (by omega) (by omega) (by omega) df.kind (.bool Lx) (.slice Lz Lt Lv) (.bool Lw) (.slice Ly Ls Lu))
  have qzs:Y0 (g7<C2∧g8<C2∧g9<C2):=by unfold Y0;omega
  clear hF jB df Jh rj ri rh rf YP uz1 uz2 uz3 aM YZ HM7 l7 l8 l9 l0 Ys HRH HZ1 HZ2 HZ3 HV
  go_upto_region 17 with fail
  generalize (((((w8).setCell ⟨C2,0,none⟩ (.bool Lx)).setCell ⟨C2,1,none⟩ (.slice Lz Lt Lv)).setCell ⟨C2,2,none⟩ (.bool Lw)).setCell ⟨C2,3,none⟩ (.slice Ly Ls Lu))=W23 at *
  clear q0 q1 q2 q3 vh vg vf ve
  obtain⟨gM,gQ,gH,gK,gL,gP,gG,gJ,hB,hE⟩:=qzu.o
  obtain⟨y0,y1,y2,y3⟩:=hB.c4
  have HE:=zh hE
  obtain⟨fJ,fK,fH,fI,fw,fx,fu,fv,o0,o1,o2,o3,oE⟩:=Zz.o.r8.read (i:=k) (by omega)
  have HO:=zh (oE (kf b k).1 (if_pos (yA _)))
  have mz:(sq-sp).natAbs≤1152921504606846976:=by omega
  clear oE hE hB
  have rj:=YL y0
  have ri:=YL y1
  have rh:=YL y2
  have rf:=YL y3
  have uo0:=YL o0
  have uo1:=YL o1
  have uo2:=YL o2
  have uo3:=YL o3
  clear y0 y1 y2 y3 o0 o1 o2 o3
  refine ag 11 (fun jx=>if jx=2 then some (gI [sq-sp]) else if jx=3 then some (jb (Zu 1 [sq-sp]) (30)) else if jx=9 then some (jb (Zu 1 [sq-sp]*(kf b k).1) (67560)) else if jx=10 then some (jb (kQ b (k+1)-Zu 1 [sq-sp]*(kf b k).1) (70133)) else none) (by kernel_rfl) (by kernel_rfl) ?_
  simp only[aU,aT,aW,aX]
  refine ae 2 (by kernel_rfl) (by rfl) (by decide) ?_
  simp only[aU,aT,aW,aX]
  repeat (go_big_quiet_step (fail))
  refine YH ?_
  refine br rfl rfl (fun w1 ao _=>en (T:=3) (l:=[sq-sp]) (yU rfl) (by go_simp)) ?_
  rintro _ ⟨qjU,rfl⟩
  simp only[Act.put,aJ,aI,aH]
  refine af rfl rfl ?_ ?_
  ·intro w1 ao hk
   have qvP:bO w1 w1.heap.size (.slice (some ⟨qjU,0,none⟩) 1 1) [sq-sp]:=hk 113 (yG (by kernel_rfl))
   have hC:=eE 1 _ [sq-sp] w1 qvP (yU rfl) (CL mz) (by decide) (by decide)
   exact⟨134,#[.slice (some ⟨qjU,0,none⟩) 1 1,.int .i64 1],by go_simp,Zg hC⟩
  rintro _ ⟨EB,ED,E6,E8,EA,EC,E5,E7,rfl⟩
  simp only[Act.put,aJ,aI,aH]
  refine ae 5 (by kernel_rfl) (by rfl) (by decide) ?_
  simp only[aU,aT,aW,aX]
  repeat (go_big_quiet_step (fail))
  refine YH ?_
  refine af rfl rfl ?_ ?_
  ·intro w1 ao hk
   have vqi:ExqAt w1 w1.heap.size (.agg (zD EB ED E6 E8 EA EC E5 E7)) (Zu 1 [sq-sp]) (30):=hk 114 (yG (by kernel_rfl))
   have hC:=nL _ _ _ _ 30 67530 w1 vqi (HO.o.grow ao) (by decide)
   exact⟨135,#[.agg (zD EB ED E6 E8 EA EC E5 E7),.agg (zD fJ fK fH fI fw fx fu fv)],by go_simp,Zg hC⟩
  rintro _ ⟨UK,UM,UG,UI,UJ,UL,UF,UH,rfl⟩
  simp only[Act.put,aJ,aI,aH]
  refine af rfl rfl ?_ ?_
  ·intro w1 ao hk
   have vqg:ExqAt w1 w1.heap.size (.agg (zD UK UM UG UI UJ UL UF UH)) (Zu 1 [sq-sp]*(kf b k).1) (67560):=hk 120 (yG (by kernel_rfl))
   have hC:=kh _ _ _ _ 2572 67560 w1 (HE.o.grow ao) vqg (by decide)
   exact⟨136,#[.agg (zD gM gQ gH gK gL gP gG gJ),.agg (zD UK UM UG UI UJ UL UF UH)],by go_simp,Zg hC⟩
  rintro _ ⟨Lg,Li,Lc,Le,Lf,Lh,Lb,Ld,rfl⟩
  simp only[Act.put,aJ,aI,aH]
  refine Zc ?_
  intro w8 aM hF
  have jB:ExqAt w8 w8.heap.size (.agg (zD Lg Li Lc Le Lf Lh Lb Ld)) (kQ b (k+1)-Zu 1 [sq-sp]*(kf b k).1) 70133:=hF 121
  have HX9:=qzu.o.grow aM
  obtain⟨_,_,_,_,_,_,_,_,df,-⟩:=qzu.o.grow aM
  have Yg:=zh (HX9.put jB)
  have HM9:=zh ((Zz.o.grow aM).far (D:=C2) (by have:=qzs.o;have:=Zz.o.b7;omega) (by have:=qzs.o;omega) (by have:=qzs.o;omega) (by have:=qzs.o;omega) HX9.kind (.bool Lg) (.slice Li Lc Le) (.bool Lf) (.slice Lh Lb Ld))
  obtain⟨q0,q1,q2,q3⟩:=df.c4
  have vh:=df.frozen (0)
  have vg:=df.frozen (1)
  have vf:=df.frozen (2)
  have ve:=df.frozen (3)
  clear hF jB df HX9 rj ri rh rf uo0 uo1 uo2 uo3 aM Zz qzu HE HO
  go_upto_region 18 with fail
  generalize (((((w8).setCell ⟨C2,0,none⟩ (.bool Lg)).setCell ⟨C2,1,none⟩ (.slice Li Lc Le)).setCell ⟨C2,2,none⟩ (.bool Lf)).setCell ⟨C2,3,none⟩ (.slice Lh Lb Ld))=W24 at *
  clear q0 q1 q2 q3 vh vg vf ve
  obtain⟨fJ,fK,fH,fI,fw,fx,fu,fv,o0,o1,o2,o3,oE⟩:=HM9.o.r9.read (i:=k) (by omega)
  have HO:=zh (oE (kf b k).2 (if_pos (yA _)))
  have v5:IntKind.i64.wrap ((sq-sp)+(sr-sq))=(sq-sp)+(sr-sq):=yF _ (by omega)
  have jU:((sq-sp)+(sr-sq)).natAbs≤1152921504606846976:=by omega
  clear oE
  have uo0:=YL o0
  have uo1:=YL o1
  have uo2:=YL o2
  have uo3:=YL o3
  clear o0 o1 o2 o3
  refine ag 16 (fun jx=>if jx=3 then some (gI [2,(sq-sp)+(sr-sq)]) else if jx=4 then some (jb (Zu 1 [2,(sq-sp)+(sr-sq)]) (30)) else if jx=6 then some (gI [sq-sp]) else if jx=7 then some (jb (Zu 1 [sq-sp]) (30)) else if jx=13 then some (jb (Zu 1 [sq-sp]*(kf b k).2) (81)) else if jx=14 then some (jb (Zu 1 [2,(sq-sp)+(sr-sq)]-Zu 1 [sq-sp]*(kf b k).2) (112)) else if jx=15 then some (gAq W24.heap.size) else none) (by kernel_rfl) (by kernel_rfl) ?_
  simp only[aU,aT,aW,aX]
  refine ae 3 (by kernel_rfl) (by rfl) (by decide) ?_
  simp only[aU,aT,aW,aX]
  repeat (go_big_quiet_step (fail))
  refine YH ?_
  refine br rfl rfl (fun w1 ao _=>en (T:=3) (l:=[2,(sq-sp)+(sr-sq)]) (yU rfl) (by go_simp)) ?_
  rintro _ ⟨qjT,rfl⟩
  simp only[Act.put,aJ,aI,aH]
  refine af rfl rfl ?_ ?_
  ·intro w1 ao hk
   have Md:bO w1 w1.heap.size (.slice (some ⟨qjT,0,none⟩) 2 2) [2,(sq-sp)+(sr-sq)]:=hk 125 (yG (by kernel_rfl))
   have hC:=eE 1 _ [2,(sq-sp)+(sr-sq)] w1 Md (yU rfl) (tZ (by decide) jU) (by decide) (by decide)
   exact⟨134,#[.slice (some ⟨qjT,0,none⟩) 2 2,.int .i64 1],by go_simp,Zg hC⟩
  rintro _ ⟨UC,UE,U8,UA,UB,UD,U7,U9,rfl⟩
  simp only[Act.put,aJ,aI,aH]
  refine ae 1 (by kernel_rfl) (by rfl) (by decide) ?_
  simp only[aU,aT,aW,aX]
  repeat (go_big_quiet_step (fail))
  refine YH ?_
  refine br rfl rfl (fun w1 ao _=>en (T:=3) (l:=[sq-sp]) (yU rfl) (by go_simp)) ?_
  rintro _ ⟨qjS,rfl⟩
  simp only[Act.put,aJ,aI,aH]
  refine af rfl rfl ?_ ?_
  ·intro w1 ao hk
   have qvK:bO w1 w1.heap.size (.slice (some ⟨qjS,0,none⟩) 1 1) [sq-sp]:=hk 128 (yG (by kernel_rfl))
   have hC:=eE 1 _ [sq-sp] w1 qvK (yU rfl) (CL mz) (by decide) (by decide)
   exact⟨134,#[.slice (some ⟨qjS,0,none⟩) 1 1,.int .i64 1],by go_simp,Zg hC⟩
  rintro _ ⟨zw,zy,zr,zu,zv,zx,zq,zt,rfl⟩
  simp only[Act.put,aJ,aI,aH]
  refine ae 5 (by kernel_rfl) (by rfl) (by decide) ?_
  simp only[aU,aT,aW,aX]
  repeat (go_big_quiet_step (fail))
  refine YH ?_
  refine af rfl rfl ?_ ?_
  ·intro w1 ao hk
   have qvJ:ExqAt w1 w1.heap.size (.agg (zD zw zy zr zu zv zx zq zt)) (Zu 1 [sq-sp]) (30):=hk 129 (yG (by kernel_rfl))
   have hC:=nL _ _ _ _ 30 51 w1 qvJ (HO.o.grow ao) (by decide)
   exact⟨135,#[.agg (zD zw zy zr zu zv zx zq zt),.agg (zD fJ fK fH fI fw fx fu fv)],by go_simp,Zg hC⟩
  rintro _ ⟨Ug,Ui,Uc,Ue,Uf,Uh,Ub,Ud,rfl⟩
  simp only[Act.put,aJ,aI,aH]
  refine af rfl rfl ?_ ?_
  ·intro w1 ao hk
   have vqf:ExqAt w1 w1.heap.size (.agg (zD UC UE U8 UA UB UD U7 U9)) (Zu 1 [2,(sq-sp)+(sr-sq)]) (30):=hk 126 (yG (by kernel_rfl))
   have vqd:ExqAt w1 w1.heap.size (.agg (zD Ug Ui Uc Ue Uf Uh Ub Ud)) (Zu 1 [sq-sp]*(kf b k).2) (81):=hk 135 (yG (by kernel_rfl))
   have hC:=kh _ _ _ _ 30 81 w1 vqf vqd (by decide)
   exact⟨136,#[.agg (zD UC UE U8 UA UB UD U7 U9),.agg (zD Ug Ui Uc Ue Uf Uh Ub Ud)],by go_simp,Zg hC⟩
  rintro _ ⟨E0,E2,Ew,Ey,Ez,E1,Ev,Ex,rfl⟩
  simp only[Act.put,aJ,aI,aH]
  refine br rfl rfl (fun w1 ao _=>vE ao.size (by go_simp)) ?_
  rintro _ ⟨Zq,rfl⟩
  simp only[Act.put,aJ,aI,aH]
  refine Zc ?_
  intro w8 aM hF
  have jB:ExqAt w8 w8.heap.size (.agg (zD E0 E2 Ew Ey Ez E1 Ev Ex)) (Zu 1 [2,(sq-sp)+(sr-sq)]-Zu 1 [sq-sp]*(kf b k).2) 112:=hF 136
  have h5:Ca W24.heap.size (.pointer (some ⟨Zq,0,none⟩)) w8:=hF 14
  obtain⟨g5',e5,YZ,df⟩:=h5
  injection e5 with e5
  injection e5 with e5
  injection e5 with e5 _ _
  subst e5
  obtain⟨q0,q1,q2,q3⟩:=df.c4
  have vh:=df.frozen (0)
  have vg:=df.frozen (1)
  have vf:=df.frozen (2)
  have ve:=df.frozen (3)
  have Jh:Zu 1 [2,(sq-sp)+(sr-sq)]-Zu 1 [sq-sp]*(kf b k).2=qE b (kf b k).2 (k+1):=by
   unfold qE
   rw[OV,rI,HK.o,HN.o]
  rw[Jh] at jB
  have qja:=zh (EqBox.first df jB)
  have HM7:=HM9.o.grow aM
  have l7:=HM9.o.r7.lt
  have l8:=HM9.o.r8.lt
  have l9:=HM9.o.r9.lt
  have l0:=HM9.o.b7
  have Zz:=zh (HM7.far (D:=Zq) (by omega) (by omega) (by omega) (by omega) df.kind (.bool E0) (.slice E2 Ew Ey) (.bool Ez) (.slice E1 Ev Ex))
  have l13:C2<W24.heap.size:=by
   obtain⟨_,_,_,_,_,_,_,_,h,-⟩:=Yg.o
   exact h.lt
  have qv7:Y0 (g7<Zq∧g8<Zq∧g9<Zq):=by unfold Y0;omega
  have Yf:=zh ((Yg.o.grow aM).far4 (D:=Zq) (by omega) df.kind (.bool E0) (.slice E2 Ew Ey) (.bool Ez) (.slice E1 Ev Ex))
  clear hF jB df Jh uo0 uo1 uo2 uo3 aM YZ HM7 l7 l8 l9 l0 l13 HM9 Yg HO v5 jU
  go_upto_region 19 with fail
  simp only[Nat.zero_add] at Yf
  generalize (((((w8).setCell ⟨Zq,0,none⟩ (.bool E0)).setCell ⟨Zq,1,none⟩ (.slice E2 Ew Ey)).setCell ⟨Zq,2,none⟩ (.bool Ez)).setCell ⟨Zq,3,none⟩ (.slice E1 Ev Ex))=W25 at *
  clear q0 q1 q2 q3 vh vg vf ve
  obtain⟨gM,gQ,gH,gK,gL,gP,gG,gJ,hB,hE⟩:=Yf.o
  obtain⟨y0,y1,y2,y3⟩:=hB.c4
  obtain⟨Co,Cq,Cd,Cm,Cn,Cp,Cc,Cl,nC,ET⟩:=qja.o
  obtain⟨t0,t1,t2,t3⟩:=nC.c4
  have HE:=zh hE
  have lP:=zh ET
  clear hB nC hE ET
  go_wp2_with fail
  refine (MR _ _ _ _ 70133 112 W25 HE.o lP.o (Nr Hb.o aB) (by decide)).mono ?_
  rintro e w26 ⟨v26,rfl,qvn,qzk⟩
  obtain⟨Km,Ko,Ki,Kk,Kl,Kn,Kh,Kj,_,_,rfl,-⟩:=bR qzk
  have MD:=zh (Zz.o.grow qvn)
  have qx5:=zh (qja.o.grow qvn)
  have hpq:=qxy b k
  rw[HK.o] at hpq
  rw[hpq] at qzk
  have qke:=zh qzk
  clear qzk qvn Zz qja Yf HE lP y0 y1 y2 y3 t0 t1 t2 t3 hpq
  go_wp2_with fail
  refine (nK _ (kf b (k+1)).1 70245 5200 w26 qke.o (by decide) (Nk Hb.o (sB Hb.o) (k+1) (by omega)).1).mono ?_
  rintro e w27 ⟨v27,rfl,qvm,qvq⟩
  obtain⟨zb1,zA1,zl1,Z6,zb2,zA2,zl2,Z5,_,_,rfl,-⟩:=bR qvq
  have Fz:=zh (MD.o.grow qvm)
  have Ye:=zh (qx5.o.grow qvm)
  have qkd:=zh (qvq.more (K':=67530) (by decide))
  clear qvq qvm MD qx5 qke
  obtain⟨fJ,fK,fH,fI,fw,fx,fu,fv,o0,o1,o2,o3,oE⟩:=Fz.o.r8.read (i:=ii) (by omega)
  have lF:=Fz.o.r8.frozen (ii*4)
  have lE:=Fz.o.r8.frozen (ii*4+1)
  have lD:=Fz.o.r8.frozen (ii*4+2)
  have lC:=Fz.o.r8.frozen (ii*4+3)
  clear oE
  go_upto_region 20 with fail
  have qj5:=zh (Fz.o.put8 (i:=ii) (o:=ii*4) i1 rfl qkd.o)
  obtain⟨Co,Cq,Cd,Cm,Cn,Cp,Cc,Cl,nC,ET⟩:=Ye.o
  have qx4:=zh (Ye.o.far4 (D:=g8) (o:=ii*4) (by have:=Fz.o.r8.lt;have:=qv7.o;omega) (Fz.o.r8.kind (i:=ii) i1) (.bool zb1) (.slice zA1 zl1 Z6) (.bool zb2) (.slice zA2 zl2 Z5))
  clear Fz qkd Ye nC ET o0 o1 o2 o3 lF lE lD lC
  generalize (((((w27).setCell ⟨g8,ii*4,none⟩ (.bool zb1)).setCell ⟨g8,ii*4+1,none⟩ (.slice zA1 zl1 Z6)).setCell ⟨g8,ii*4+2,none⟩ (.bool zb2)).setCell ⟨g8,ii*4+3,none⟩ (.slice zA2 zl2 Z5))=W28 at *
  obtain⟨Co,Cq,Cd,Cm,Cn,Cp,Cc,Cl,nC,ET⟩:=qx4.o
  obtain⟨t0,t1,t2,t3⟩:=nC.c4
  have lP:=zh ET
  have jU:(sr-sq).natAbs≤1152921504606846976:=by omega
  have hpq:=qxx b k
  rw[HN.o] at hpq
  have HPQ:=zh hpq
  clear hpq
  have HFi:=zh (Nk Hb.o (sB Hb.o) (k+1) (by omega)).2
  clear nC ET
  have ut0:=YL t0
  have ut1:=YL t1
  have ut2:=YL t2
  have ut3:=YL t3
  clear t0 t1 t2 t3
  refine ag 9 (fun jx=>if jx=3 then some (gI [sr-sq]) else if jx=4 then some (jb (Zu 1 [sr-sq]) (30)) else if jx=6 then some (jb ((kf b (k+1)).2) (142)) else if jx=7 then some (jb ((kf b (k+1)).2) (51)) else none) (by kernel_rfl) (by kernel_rfl) ?_
  simp only[aU,aT,aW,aX]
  refine ae 3 (by kernel_rfl) (by rfl) (by decide) ?_
  simp only[aU,aT,aW,aX]
  repeat (go_big_quiet_step (fail))
  refine YH ?_
  refine br rfl rfl (fun w1 ao _=>en (T:=3) (l:=[sr-sq]) (yU rfl) (by go_simp)) ?_
  rintro _ ⟨qjR,rfl⟩
  simp only[Act.put,aJ,aI,aH]
  refine af rfl rfl ?_ ?_
  ·intro w1 ao hk
   have vqc:bO w1 w1.heap.size (.slice (some ⟨qjR,0,none⟩) 1 1) [sr-sq]:=hk 147 (yG (by kernel_rfl))
   have hC:=eE 1 _ [sr-sq] w1 vqc (yU rfl) (CL jU) (by decide) (by decide)
   exact⟨134,#[.slice (some ⟨qjR,0,none⟩) 1 1,.int .i64 1],by go_simp,Zg hC⟩
  rintro _ ⟨yt,yv,yl,yq,yr,yu,yk,yo,rfl⟩
  simp only[Act.put,aJ,aI,aH]
  refine ae 1 (by kernel_rfl) (by rfl) (by decide) ?_
  simp only[aU,aT,aW,aX]
  repeat (go_big_quiet_step (fail))
  refine YH ?_
  refine af rfl rfl ?_ ?_
  ·intro w1 ao hk
   have qvH:ExqAt w1 w1.heap.size (.agg (zD yt yv yl yq yr yu yk yo)) (Zu 1 [sr-sq]) (30):=hk 148 (yG (by kernel_rfl))
   have hC:=MR _ _ _ _ 30 112 w1 qvH (lP.o.grow ao) (Nr Hb.o aB) (by decide)
   rw[HPQ.o] at hC
   exact⟨173,#[.agg (zD yt yv yl yq yr yu yk yo),.agg (zD Co Cq Cd Cm Cn Cp Cc Cl)],by go_simp,Zg hC⟩
  rintro _ ⟨tg,tj,tb,td,tf,ti,ta,tc,rfl⟩
  simp only[Act.put,aJ,aI,aH]
  refine af rfl rfl ?_ ?_
  ·intro w1 ao hk
   have qzn:ExqAt w1 w1.heap.size (.agg (zD tg tj tb td tf ti ta tc)) ((kf b (k+1)).2) (142):=hk 150 (yG (by kernel_rfl))
   have hC:=nK _ _ 142 38 w1 qzn (by decide) HFi.o
   exact⟨137,#[.agg (zD tg tj tb td tf ti ta tc)],by go_simp,Zg hC⟩
  rintro _ ⟨TP,TR,TK,TM,TN,TQ,TJ,TL,rfl⟩
  simp only[Act.put,aJ,aI,aH]
  refine ae 1 (by kernel_rfl) (by rfl) (by decide) ?_
  simp only[aU,aT,aW,aX]
  repeat (go_big_quiet_step (fail))
  refine YH ?_
  refine Zc ?_
  intro w8 aM hF
  have jB:ExqAt w8 w8.heap.size (.agg (zD TP TR TK TM TN TQ TJ TL)) (kf b (k+1)).2 51:=hF 151
  have qZ:=zh (qj5.o.grow aM)
  have HE:=zh jB
  clear hF jB aM qj5 qx4 lP ut0 ut1 ut2 ut3 HPQ HFi
  obtain⟨fJ,fK,fH,fI,fw,fx,fu,fv,o0,o1,o2,o3,oE⟩:=qZ.o.r9.read (i:=ii) (by omega)
  have lF:=qZ.o.r9.frozen (ii*4)
  have lE:=qZ.o.r9.frozen (ii*4+1)
  have lD:=qZ.o.r9.frozen (ii*4+2)
  have lC:=qZ.o.r9.frozen (ii*4+3)
  clear oE
  go_wp2_with fail
  have qjh:Y0 (MoQ w (((((w8).setCell ⟨g9,ii*4,none⟩ (.bool TP)).setCell ⟨g9,ii*4+1,none⟩ (.slice TR TK TM)).setCell ⟨g9,ii*4+2,none⟩ (.bool TN)).setCell ⟨g9,ii*4+3,none⟩ (.slice TQ TJ TL)) b (zC b (some ⟨bs,os,none⟩) cs Al cl) g7 g8 g9 (uS b 0) (pF b (k+1)) (qF b (k+1))):=(qZ.o.put9 (i:=ii) (o:=ii*4) i1 rfl HE.o).weak (fun _ _ _ h=>h) (fun j q _ h=>by
   unfold pF at h
   unfold eh pF
   rw[← Hii.o]
   by_cases e:j=k+1
   ·subst e
    rw[if_pos (yA _)] at h
    rw[if_pos rfl]
    exact h
   ·rw[if_neg e]
    by_cases e2:j≤k
    ·rw[if_pos (by omega)] at h
     rw[if_pos e2]
     exact h
    rw[if_neg (by omega)] at h
    cases h) (fun j q _ h=>by
   unfold qF at h
   unfold eh qF
   rw[← Hii.o]
   by_cases e:j=k+1
   ·subst e
    rw[if_pos (yA _)] at h
    rw[if_pos rfl]
    exact h
   rw[if_neg e]
   by_cases e2:j≤k
   ·rw[if_pos (by omega)] at h
    rw[if_pos e2]
    exact h
   rw[if_neg (by omega)] at h
   cases h)
  clear qZ HE o0 o1 o2 o3 lF lE lD lC
  go_roundw
  case rel=>exact⟨k+1,.inr (by omega),by go_num,qjh⟩
  have:=Hii.o;simp[intOf];omega
 skip
 have k1:¬ (k:Int)+1<(b.sup.length:Int)-1:=by omega
 have Hkl:Y0 (¬ k+2<b.sup.length):=aB
 have v6:IntKind.i64.wrap ((b.sup.length:Int)-2)=((b.sup.length-1:Nat):Int)-1:=(yF _ (by omega)).trans (by omega)
 have Q0:Y0 (MoQ w wr b (zC b (some ⟨bs,os,none⟩) cs Al cl) g7 g8 g9 (uS b (b.sup.length-1-(b.sup.length-1))) (pF b k) (qF b k)):=by rw[Nat.sub_self];exact HM
 clear HM aB
 go_wp2_with fail
 go_loopw [15] (fun ix wr=>∃ i:Nat,i+1≤b.sup.length∧ix = .int .i64 ((i:Int)-1)∧Y0 (MoQ w wr b (zC b (some ⟨bs,os,none⟩) cs Al cl) g7 g8 g9 (uS b (b.sup.length-1-i)) (pF b k) (qF b k))) (fun ix _=>(intOf ix).toNat)
 case atStart=>exact⟨b.sup.length-1,by omega,rfl,Q0⟩
 clear Q0
 obtain⟨i,hi,rfl,HM⟩:=hrel
 by_cases Wu:2≤i
 ·skip
  obtain⟨p,rfl⟩:∃ p,i=p+2:=⟨i-2,by omega⟩
  obtain⟨jj,hjj⟩:∃ jj,p+1=jj:=⟨_,rfl⟩
  obtain⟨ll,hll⟩:∃ ll,p+2=ll:=⟨_,rfl⟩
  have e1:((p+2:Nat):Int)-1=(jj:Int):=by omega
  rw[e1]
  have hj1:1≤jj:=by omega
  have i0:(0:Int)<(jj:Int):=by omega
  have i00:(0:Int)≤(jj:Int):=by omega
  have i4:(jj:Int)<(b.sup.length:Int):=by omega
  have i5:(0:Int)≤(ll:Int):=by omega
  have i6:(ll:Int)<(b.sup.length:Int):=by omega
  have v1:IntKind.i64.wrap ((jj:Int)+1)=(ll:Int):=(yF _ (by omega)).trans (by omega)
  have v2:IntKind.i64.wrap ((jj:Int)-1)=((jj:Nat):Int)-1:=yF _ (by omega)
  have Hjj:=zh hjj
  have Hll:=zh hll
  have j1:jj<b.sup.length:=by omega
  have l1:ll<b.sup.length:=by omega
  have HMs:Y0 ((kf b jj).1-(kf b jj).2*Zx b ll=Zx b jj):=by
   unfold Y0
   have:=VE Hb.o (i:=jj) hj1 (by omega)
   rw[show jj+1=ll by omega] at this
   exact this
  have HFi:=zh (qqa Hb.o j1)
  obtain⟨ab1,aA1,al1,ac1,ab2,aA2,al2,ac2,a0,a1,a2,a3,aE⟩:=HM.o.r8.read (i:=jj) j1
  obtain⟨Qi,cA1,Qd,cc1,Qh,cA2,Qc,cc2,c0,c1,c2,c3,cE⟩:=HM.o.r9.read (i:=jj) j1
  obtain⟨db1,dA1,dl1,dc1,db2,dA2,dl2,dc2,d0,d1,d2,d3,dE⟩:=HM.o.r7.read (i:=ll) l1
  have HA:=zh (aE (kf b jj).1 (if_pos (by have:=Hkl.o;omega)))
  have HC:=zh (cE (kf b jj).2 (if_pos (by have:=Hkl.o;omega)))
  have HD:=zh (dE (Zx b ll) (if_pos (.inr (by omega))))
  clear aE cE dE e1 hjj hll
  go_upto_region 24 with fail
  have pY:=YL a0
  have pX:=YL a1
  have pW:=YL a2
  have pV:=YL a3
  have FN:=YL c0
  have Eh:=YL c1
  have FM:=YL c2
  have vV:=YL c3
  have FL:=YL d0
  have FK:=YL d1
  have FJ:=YL d2
  have FI:=YL d3
  clear a0 a1 a2 a3 c0 c1 c2 c3 d0 d1 d2 d3
  refine ag 19 (fun jx=>if jx=15 then some (jb ((kf b jj).2*Zx b ll) (67581)) else if jx=16 then some (jb (Zx b jj) (135112)) else if jx=17 then some (jb (Zx b jj) (67530)) else none) (by kernel_rfl) (by kernel_rfl) ?_
  simp only[aU,aT,aW,aX]
  refine ae 15 (by kernel_rfl) (by rfl) (by decide) ?_
  simp only[aU,aT,aW,aX]
  repeat (go_big_quiet_step (fail))
  refine YH ?_
  refine af rfl rfl ?_ ?_
  ·intro w1 ao hk
   have hC:=nL _ _ _ _ 51 67530 w1 (HC.o.grow ao) (HD.o.grow ao) (by decide)
   exact⟨135,#[.agg (zD Qi cA1 Qd cc1 Qh cA2 Qc cc2),.agg (zD db1 dA1 dl1 dc1 db2 dA2 dl2 dc2)],by go_simp,Zg hC⟩
  rintro _ ⟨Tt,Tw,Tp,Tr,Ts,Tv,Tn,Tq,rfl⟩
  simp only[Act.put,aJ,aI,aH]
  refine af rfl rfl ?_ ?_
  ·intro w1 ao hk
   have qk9:ExqAt w1 w1.heap.size (.agg (zD Tt Tw Tp Tr Ts Tv Tn Tq)) ((kf b jj).2*Zx b ll) (67581):=hk 174 (yG (by kernel_rfl))
   have hC:=kh _ _ _ _ 67530 67581 w1 (HA.o.grow ao) qk9 (by decide)
   rw[HMs.o] at hC
   exact⟨136,#[.agg (zD ab1 aA1 al1 ac1 ab2 aA2 al2 ac2),.agg (zD Tt Tw Tp Tr Ts Tv Tn Tq)],by go_simp,Zg hC⟩
  rintro _ ⟨Tk,Tm,Tf,Ti,Tj,Tl,Te,Tg,rfl⟩
  simp only[Act.put,aJ,aI,aH]
  refine af rfl rfl ?_ ?_
  ·intro w1 ao hk
   have qk8:ExqAt w1 w1.heap.size (.agg (zD Tk Tm Tf Ti Tj Tl Te Tg)) (Zx b jj) (135112):=hk 175 (yG (by kernel_rfl))
   have hC:=nK _ _ 135112 50647 w1 qk8 (by decide) HFi.o
   exact⟨137,#[.agg (zD Tk Tm Tf Ti Tj Tl Te Tg)],by go_simp,Zg hC⟩
  rintro _ ⟨Tb,Td,SX,SZ,Ta,Tc,SV,SY,rfl⟩
  simp only[Act.put,aJ,aI,aH]
  refine ae 1 (by kernel_rfl) (by rfl) (by decide) ?_
  simp only[aU,aT,aW,aX]
  repeat (go_big_quiet_step (fail))
  refine YH ?_
  refine Zc ?_
  intro w8 aM hF
  have jB:ExqAt w8 w8.heap.size (.agg (zD Tb Td SX SZ Ta Tc SV SY)) (Zx b jj) 67530:=hF 176
  have qZ:=zh (HM.o.grow aM)
  have HE:=zh jB
  clear hF jB aM HM HA HC HD HMs HFi pY pX pW pV FN Eh FM vV FL FK FJ FI
  obtain⟨fJ,fK,fH,fI,fw,fx,fu,fv,o0,o1,o2,o3,oE⟩:=qZ.o.r7.read (i:=jj) j1
  have lF:=qZ.o.r7.frozen (jj*4)
  have lE:=qZ.o.r7.frozen (jj*4+1)
  have lD:=qZ.o.r7.frozen (jj*4+2)
  have lC:=qZ.o.r7.frozen (jj*4+3)
  clear oE
  go_wp2_with fail
  have qjh:Y0 (MoQ w (((((w8).setCell ⟨g7,jj*4,none⟩ (.bool Tb)).setCell ⟨g7,jj*4+1,none⟩ (.slice Td SX SZ)).setCell ⟨g7,jj*4+2,none⟩ (.bool Ta)).setCell ⟨g7,jj*4+3,none⟩ (.slice Tc SV SY)) b (zC b (some ⟨bs,os,none⟩) cs Al cl) g7 g8 g9 (uS b (b.sup.length-1-jj)) (pF b k) (qF b k)):=(qZ.o.put7 (i:=jj) (o:=jj*4) j1 rfl HE.o).weak (fun j q hj h=>by
   unfold uS at h
   unfold eh uS
   by_cases e:j=jj
   ·subst e
    rw[if_pos (by omega)] at h
    rw[if_pos rfl]
    exact h
   rw[if_neg e]
   have h1:=Hjj.o
   by_cases e2:j=0∨b.sup.length≤j+1+(b.sup.length-1-jj)
   ·rw[if_pos e2] at h
    rw[if_pos (by omega)]
    exact h
   rw[if_neg e2] at h
   cases h) (fun _ _ _ h=>h) (fun _ _ _ h=>h)
  clear qZ HE o0 o1 o2 o3 lF lE lD lC
  go_roundw
  case rel=>exact⟨jj,by omega,rfl,qjh⟩
  have:=Hjj.o;simp[intOf];omega
 skip
 have k2:¬ (0:Int)<(i:Int)-1:=by omega
 have HR:=zh (HM.o.r7.weak (f':=fun j=>some (Zx b j)) (fun j q hj h=>by
  unfold uS
  rw[if_pos (by omega)]
  exact h))
 have HBE:=zh HM.o.bel
 clear HM
 go_wp2_with fail
 refine YI (results_tmp rfl _ _ _) (by rfl) ?_
 exact⟨HBE.o,_,rfl,HR.o⟩
end Go.Proofs.YtfhmbechennkbaaGreatDoor
