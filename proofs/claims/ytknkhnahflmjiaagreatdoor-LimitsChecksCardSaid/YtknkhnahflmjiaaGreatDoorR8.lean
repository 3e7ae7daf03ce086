/- L -/
import Derived.Test.YtknkhnahflmjiaaGreatDoorR7
namespace Go.Proofs.YtknkhnahflmjiaaGreatDoor
set_option maxRecDepth 100000
set_option maxHeartbeats 40000000
open Go.RowKit Go.Shelf
theorem qx3 {w0 w:World} {v:Value} {q:Rat} {K:Nat} {e:Ending} {w':World} (hv:ExqAt w0 w0.heap.size v q K) (h:AQ w q e w'):eZ w q K e w':=by
 obtain⟨s1,v1,s2,v2,N,D,-,h1,h2,h3,h4,h5,rfl⟩:=hv;obtain⟨e1,e2⟩:=qN (n:=N) (d:=D) (by omega);refine Jk h ?_ ?_
 ·rw[e1];exact yH (cv (YK _ _)) h4
 rw[e2];exact yH (cv (YK _ _)) h5
theorem Nf (v:Value) (x:Rat) (K:Nat) (w:World) (hv:ExqAt w w.heap.size v x K) (hK:K≤300000):Calls Tryz.prog 213 #[v] w (eZ w x K) :=
 (zv v x K w hv hK).mono fun _ _ h=>qx3 hv h
theorem C8 {b:BeamT} {f:LoadT→Option Rat} {s y:Rat} {k:Nat} (hk:k<b.loads.length) (h:f b.loads[k]=some y):aN b f s (k+1)=aN b f s k+y:=by
 rw[Zl hk,h]
theorem xS {b:BeamT} {f:LoadT→Option Rat} {s:Rat} {k:Nat} (hk:k<b.loads.length) (h:f b.loads[k]=none):aN b f s (k+1)=aN b f s k:=by
 rw[Zl hk,h]
theorem Sc (b:BeamT) (i:Nat) (x:LoadT) (h:x.pos=ai b i∨(i=0∧x.pos<ai b 0)∨(i+1=b.sup.length∧ai b i<x.pos)):qe b i x=some (Zu 1 [x.wt]):=by
 unfold qe;rw[if_pos h,qE]
theorem Sd (b:BeamT) (i:Nat) (x:LoadT) (h:¬(x.pos=ai b i∨(i=0∧x.pos<ai b 0)∨(i+1=b.sup.length∧ai b i<x.pos))):qe b i x=none:=if_neg h
theorem GG {lo hi d:Int} {left:Bool} {x:LoadT} (h:lo<x.pos∧x.pos<hi) (hd:d=if left then hi-x.pos else x.pos-lo):gq lo hi left x=some (Zu (hi-lo) [x.wt,d]):=by
 unfold gq;rw[if_neg (by omega),hd]
theorem GH {lo hi:Int} {left:Bool} {x:LoadT} (h:¬(lo<x.pos∧x.pos<hi)):gq lo hi left x=none:=if_pos (by omega)
def jl (b:BeamT) (lo hi:Int) (left:Bool) (s:Rat) (k:Nat):Rat:=aN b (gq lo hi left) (s+Zu 2000 [b.even,hi-lo]) k
theorem V7 (b:BeamT) (lo hi:Int) (left:Bool) (m k s:Rat):jl b lo hi left s b.loads.length+(k-m)*Zu (hi-lo) [1]=AJ b lo hi left m k s:=rfl
def OutQ (w:World) (Bo:Nat) (v:Value) (i:Nat) (f:Nat→Rat) (K:Nat):Prop:=∃es:List E4,es.length=i∧w.ownsRow Bo 239 4 v i (es.flatMap E4.cells)∧∀j (hj:j<es.length),ExqAt w w.heap.size es[j].val (f j) K
theorem OutQ.nil (w:World) (Bo:Nat) (f:Nat→Rat) (K:Nat):OutQ w Bo (.slice none 0 0) 0 f K:=⟨[],rfl,yJ _ _ _ _,fun j hj=>by cases hj⟩
theorem OutQ.grow {w w':World} {Bo i K:Nat} {v:Value} {f:Nat→Rat} (h:OutQ w Bo v i f K) (hb:Below w.heap.size w w'):OutQ w' Bo v i f K:=by
 obtain⟨es,h1,h2,h3⟩:=h;exact⟨es,h1,pR h2 hb,fun j hj=>(h3 j hj).grow hb⟩
theorem OutQ.far4 {w:World} {Bo i K D o:Nat} {v:Value} {f:Nat→Rat} (h:OutQ w Bo v i f K) (hn:v.ownBlock≠some D) (hk:qs w D o) (x0 x1 x2 x3:Value) :
  OutQ ((((w.setCell ⟨D,o,none⟩ x0).setCell ⟨D,o+1,none⟩ x1).setCell ⟨D,o+2,none⟩ x2).setCell ⟨D,o+3,none⟩ x3) Bo v i f K:=by
 obtain⟨es,h1,h2,h3⟩:=h;have st:=fun (w:World) (o:Nat) (u:Value)=>(⟨rfl,rfl,rfl,by simp[World.setCell],fun k _ hk=>Below.heap_setCell w ⟨D,o,none⟩ u k (fun e=>hk (by rw[e]))⟩:w.grownBy (w.setCell ⟨D,o,none⟩ u) (some D));exact⟨es,h1,(((h2.kept (st _ _ _) (.inr hn)).kept (st _ _ _) (.inr hn)).kept (st _ _ _) (.inr hn)).kept (st _ _ _) (.inr hn),fun j hj=>(h3 j hj).kind hk x0 x1 x2 x3⟩
theorem OutQ.push {w w':World} {Bo i K:Nat} {v v':Value} {f:Nat→Rat} {es:List E4} (h1:es.length=i) (h2:w.ownsRow Bo 239 4 v i (es.flatMap E4.cells)) (h3:∀j (hj:j < es.length),ExqAt w w.heap.size es[j].val (f j) K) {b1:Bool} {A1:Option Addr} {l1 c1:Nat} {b2:Bool} {A2:Option Addr} {l2 c2:Nat} (hE:ExqAt w w.heap.size (.agg (zD b1 A1 l1 c1 b2 A2 l2 c2)) (f i) K)
  (hg:w.grownBy w' v.ownBlock) (ho:w'.ownsRow Bo 239 4 v' (i+1) (es.flatMap E4.cells++[.bool b1,.slice A1 l1 c1,.bool b2,.slice A2 l2 c2])):OutQ w' Bo v' (i+1) f K:=by
 refine⟨es++[⟨b1,A1,l1,c1,b2,A2,l2,c2⟩],by rw[yR,h1];rfl,?_,fun j hj=>?_⟩
 ·rw[List.flatMap_append];exact ho
 rw[yR,h1] at hj;by_cases e:j<i
 ·rw[List.getElem_append_left (by omega)];exact (h3 j (by omega)).kept h2 hg (by decide)
 obtain rfl:j=i:=by simp at hj;omega
 rw[List.getElem_append_right (by omega)];simp only[h1,Nat.sub_self,List.getElem_cons_zero];exact hE.kept h2 hg (by decide)
def EqsAt (w:World) (v:Value) (l:List Rat) (K:Nat):Prop:=∃A c,v=.slice A l.length c∧l.length≤c∧c≤maxLen∧∀(_:0<l.length),∃g,A=some ⟨g,0,none⟩∧g<w.heap.size∧∀j (hj:j<l.length),∃b1 A1 l1 c1 b2 A2 l2 c2,w.cell? ⟨g,j*4,none⟩=some (.bool b1)∧w.cell? ⟨g,j*4+1,none⟩=some (.slice A1 l1 c1)∧w.cell? ⟨g,j*4+2,none⟩=some (.bool b2)∧w.cell? ⟨g,j*4+3,none⟩=some (.slice A2 l2 c2) ∧
  ExqAt w w.heap.size (.agg (zD b1 A1 l1 c1 b2 A2 l2 c2)) l[j] K
theorem OutQ.eqs {w:World} {Bo n K:Nat} {v:Value} {f:Nat→Rat} (h:OutQ w Bo v n f K):EqsAt w v ((List.range n).map f) K:=by
 obtain⟨es,h1,h2,h3⟩:=h;unfold EqsAt;simp only[List.length_map,List.length_range];rcases h2.2 with⟨rfl,rfl⟩|⟨g,cap,cur,rfl,hb,hg,hn,hc,hs,ht⟩
 ·exact⟨none,0,rfl,yA _,yI _,fun h=>by omega⟩
 refine⟨_,cap,rfl,hn,hc,fun _=>⟨g,rfl,(Array.getElem?_eq_some_iff.1 hg).1,fun j hj=>?_⟩⟩;have k:=fun (m:Nat) (hm:m<4)=>(cell_of_row w g (j*4+m) cur _ (0,0) hg).trans (show cur[j*4+m]?=es[j].cells[m]? by
  rw[←wd es j m (by omega) hm,←ht,List.getElem?_take,if_pos (by omega),Array.getElem?_toList])
 refine⟨_,_,_,_,_,_,_,_,k 0 (by decide),k 1 (by decide),k 2 (by decide),k 3 (by decide),?_⟩;simp only[List.getElem_map,List.getElem_range];exact h3 j (by omega)
theorem EqRow.eqs {w:World} {g n K:Nat} {f:Nat→Rat} (h:EqRow w g n (fun j=>some (f j)) K) (hn:n≤maxLen):EqsAt w (.slice (some ⟨g,0,none⟩) n n) ((List.range n).map f) K:=by
 unfold EqsAt;simp only[List.length_map,List.length_range];refine⟨_,n,rfl,yA _,hn,fun _=>⟨g,rfl,h.lt,fun j hj=>?_⟩⟩;obtain⟨b1,A1,l1,c1,b2,A2,l2,c2,k0,k1,k2,k3,kE⟩:=h.read hj;refine⟨b1,A1,l1,c1,b2,A2,l2,c2,k0,k1,k2,k3,?_⟩;simp only[List.getElem_map,List.getElem_range];exact kE _ rfl
theorem EqsAt.grow {w w':World} {v:Value} {l:List Rat} {K:Nat} (h:EqsAt w v l K) (hb:Below w.heap.size w w'):EqsAt w' v l K:=by
 obtain⟨A,c,h1,h2,h3,h4⟩:=h;refine⟨A,c,h1,h2,h3,fun h0=>?_⟩;obtain⟨g,e,aI,hc⟩:=h4 h0;refine⟨g,e,yK aI hb.size,fun j hj=>?_⟩;obtain⟨b1,A1,l1,c1,b2,A2,l2,c2,k0,k1,k2,k3,kE⟩:=hc j hj;exact⟨b1,A1,l1,c1,b2,A2,l2,c2,(hb.cell (p:=⟨g,j*4,none⟩) aI).trans k0,(hb.cell (p:=⟨g,j*4+1,none⟩) aI).trans k1,(hb.cell (p:=⟨g,j*4+2,none⟩) aI).trans k2,(hb.cell (p:=⟨g,j*4+3,none⟩) aI).trans k3,kE.grow hb⟩
structure RcQ (w W:World) (b:BeamT) (bx:Array Value) (gm Bo:Nat) (vo:Value) (i:Nat):Prop where
 bm:Blk W w.heap.size 117 bx
 m:EqRow W gm b.sup.length (fun j=>some (Zx b j)) 67530
 o:OutQ W Bo vo i (KB b) 280000
 bel:Below w.heap.size w W
 gl:gm<Bo
 wl:w.heap.size<Bo
 bl:Bo≤W.heap.size
theorem RcQ.grow {w W W':World} {b:BeamT} {bx:Array Value} {gm Bo i:Nat} {vo:Value} (h:RcQ w W b bx gm Bo vo i) (hb:Below W.heap.size W W'):RcQ w W' b bx gm Bo vo i :=
 ⟨h.bm.below hb h.bm.lt,h.m.grow hb,h.o.grow hb,h.bel.trans (hb.mono h.bel.size),h.gl,h.wl,yH h.bl hb.size⟩
theorem RcQ.push {w W W':World} {b:BeamT} {bx:Array Value} {gm Bo i:Nat} {vo v':Value} (h:RcQ w W b bx gm Bo vo i) {es:List E4} (h1:es.length=i) (h2:W.ownsRow Bo 239 4 vo i (es.flatMap E4.cells)) (h3:∀j (hj:j < es.length),ExqAt W W.heap.size es[j].val (KB b j) 280000) {b1:Bool} {A1:Option Addr} {l1 c1:Nat} {b2:Bool} {A2:Option Addr} {l2 c2:Nat} (hE:ExqAt W W.heap.size (.agg (zD b1 A1 l1 c1 b2 A2 l2 c2)) (KB b i) 280000)
  (hg:W.grownBy W' vo.ownBlock) (ho:W'.ownsRow Bo 239 4 v' (i+1) (es.flatMap E4.cells++[.bool b1,.slice A1 l1 c1,.bool b2,.slice A2 l2 c2])):RcQ w W' b bx gm Bo v' (i+1):=by
 have fS:∀k,vo.ownBlock=some k→Bo≤k:=fun k e=>(h2.lt k e).1;refine⟨h.bm.kept hg (h.bm.ne_own h2 (by decide)),?_,OutQ.push h1 h2 h3 hE hg ho,h.bel.grown hg h.bel.size (fun k e=>yH (YG h.wl) (fS k e)),h.gl,h.wl,yH h.bl hg.size⟩;obtain⟨ms,m1,m2,m3⟩:=h.m;exact⟨ms,m1,m2.kept hg (fun e=>by have:=fS _ e.symm;have:=h.gl;omega),fun j hj q hq=>(m3 j hj q hq).kept h2 hg (by decide)⟩
structure RcI (w W:World) (b:BeamT) (bx:Array Value) (gm Bo:Nat) (vo:Value) (i g8:Nat) (q:Rat) (K:Nat):Prop where
 st:RcQ w W b bx gm Bo vo i
 sum:EqBox W g8 q K
 ne:vo.ownBlock≠some g8
 far:Bo≤g8
section
variable {w W W':World} {b:BeamT} {bx:Array Value} {gm Bo i g8:Nat} {vo:Value} {q:Rat} {K:Nat}
theorem RcI.grow (h:RcI w W b bx gm Bo vo i g8 q K) (hb:Below W.heap.size W W'):RcI w W' b bx gm Bo vo i g8 q K :=
 ⟨h.st.grow hb,h.sum.grow hb,h.ne,h.far⟩
theorem RcI.more (h:RcI w W b bx gm Bo vo i g8 q K) {K':Nat} (hK:K≤K'):RcI w W b bx gm Bo vo i g8 q K':=⟨h.st,h.sum.more hK,h.ne,h.far⟩
theorem RcI.is (h:RcI w W b bx gm Bo vo i g8 q K) {q':Rat} (e:q=q'):RcI w W b bx gm Bo vo i g8 q' K:=by
 subst e;exact h
variable {b1:Bool} {A1:Option Addr} {l1 c1:Nat} {b2:Bool} {A2:Option Addr} {l2 c2:Nat} {q':Rat} {K':Nat}
theorem RcI.put (h:RcI w W b bx gm Bo vo i g8 q K) (hE:ExqAt W W.heap.size (.agg (zD b1 A1 l1 c1 b2 A2 l2 c2)) q' K') :
  RcI w ((((W.setCell ⟨g8,0,none⟩ (.bool b1)).setCell ⟨g8,1,none⟩ (.slice A1 l1 c1)).setCell ⟨g8,2,none⟩ (.bool b2)).setCell ⟨g8,3,none⟩ (.slice A2 l2 c2)) b bx gm Bo vo i g8 q' K':=by
 have h1:=h.far;have h2:=h.st.gl;have h3:=h.st.wl;have hk:=h.sum.kind;exact⟨⟨h.st.bm.far4o (by omega) 0 _ _ _ _,h.st.m.far4 (by omega) hk _ _ _ _,h.st.o.far4 h.ne hk _ _ _ _,dI h.st.bel (by omega) 0 _ _ _ _,h2,h3,by have:=h.st.bl;simpa[World.setCell] using this⟩,h.sum.put hE,h.ne,h1⟩
theorem RcI.start (h:RcQ w W b bx gm Bo vo i) (hE:ExqAt W W.heap.size (.agg (zD b1 A1 l1 c1 b2 A2 l2 c2)) q K) :
  RcI w (W.alloc (.cells (zD b1 A1 l1 c1 b2 A2 l2 c2) 239)) b bx gm Bo vo i W.heap.size q K:=by
 refine⟨h.grow ((yB _ _).alloc (yA _) _),EqBox.new hE,fun e=>?_,h.bl⟩;obtain⟨es,-,h2,-⟩:=h.o;exact absurd (h2.lt _ e).2 (Nat.lt_irrefl _)
end
def VB (b:BeamT) (w:World) (e:Ending) (w':World):Prop:=Below w.heap.size w w'∧∃v,e=.returned v∧EqsAt w' v (dP b) 280000
def xI (b:BeamT) (i s:Nat):Rat:=if s=0 then BQ b i else if s=1 then Ff b i else KB b i
theorem BL (v:Value) (b:BeamT) (w:World) (hv:BeamAt w w.heap.size v b) (hb:BeamOk b) (ht:cK b=true) (hT:∀(u:Value) (w1:World),BeamAt w1 w1.heap.size u b→Calls Tryz.prog 274 #[u] w1 (TurnedPost b w1)) :
  Calls Tryz.prog 155 #[v] w (VB b w):=by
 have zj:=hv;obtain⟨As,cs,Al,cl,rfl,hS,hL⟩:=hv;obtain⟨_,_,e,_,oR,td⟩:=hS.open_;injection e with e1 _ e2;subst e1 e2;obtain⟨_,_,e,_,dR,nQ⟩:=hL.open_;injection e with e1 _ e2;subst e1 e2;have h1:=hb.sup1;have h4:=hb.sup 0 h1.1;unfold maxLen at oR dR;obtain⟨bs,os,rfl,gL,xZ⟩:=td 0 h1.1;have mI:Y0 (∀j,j<b.sup.length→w.cell? ⟨bs,os+j,none⟩=some (.int .i64 (ai b j))):=fun j hj=>by
  have h:=xZ j hj;unfold ai;rw[yO,yN hj];exact h
 have uw:=zh nQ;have Hb:=zh hb;have SY:=zh ht;have HT:=zh hT;obtain⟨XH,Vb⟩:=hb.len;obtain⟨TD,h32⟩:=hb.even;have h2:=hb.loads1;have bE:=zh ((yB _ w).alloc (yA _) (.cells (zC b (some ⟨bs,os,none⟩) cs Al cl) 117));have HV:=zh (zj.grow bE.o);have cw:=zh (Blk.new w 117 (zC b (some ⟨bs,os,none⟩) cs Al cl));have s0:(0:Int)<(b.sup.length:Int):=by omega
 obtain⟨s3,s1⟩:=h1;clear td nQ hb hS hL hT zj h4 xZ ht;go_enter Tryz.func155,Tryz.ntmps155;go_upto_region 1 with fail;generalize w.alloc (.cells (zC b (some ⟨bs,os,none⟩) cs Al cl) 117)=W1 at*;obtain⟨y0,y1,y2,y3,y4⟩:=cw.o.c5;go_wp2_with fail;refine (Ky _ b W1 HV.o Hb.o SY.o HT.o).mono ?_;rintro e w3 ⟨bZ,gm,rfl,QW⟩;have HQ:Y0 (RcQ w w3 b (zC b (some ⟨bs,os,none⟩) cs Al cl) gm w3.heap.size (.slice none 0 0) 0):=⟨cw.o.below bZ cw.o.lt,QW,OutQ.nil _ _ _ _,bE.o.trans (bZ.mono bE.o.size),QW.lt,yK cw.o.lt bZ.size,yA _⟩
 clear y0 y1 y2 y3 y4 bZ QW cw bE HV;generalize w3.heap.size=Bo at*;go_wp2_with fail;go_loopg [6,7] b.sup.length (fun gk vo ix wr=>∃(i:Nat) (Ao:Option Addr) (co:Nat),gk+i=b.sup.length∧ix=.int .i64 i∧vo=.slice Ao i co∧Y0 (RcQ w wr b (zC b (some ⟨bs,os,none⟩) cs Al cl) gm Bo (.slice Ao i co) i))
 case atStart=>exact⟨0,none,0,rfl,rfl,rfl,HQ⟩
 clear HQ;obtain⟨i,Ao,co,hgk,rfl,rfl,HQ⟩:=hrel;have i0:(0:Int)≤(i:Int):=yE _;by_cases ta:i<b.sup.length
 ·skip
  have i1:(i:Int)<(b.sup.length:Int):=by omega
  have Hgk:=zh hgk;clear hgk;go_wp2_with fail;refine (uI wr).mono ?_;rintro e w2 ⟨v2,rfl,bg,Aj⟩;obtain⟨EE,EG,EA,EC,ED,EF,E8,EB,_,_,rfl,-⟩:=cf Aj;have HI:=zh (RcI.start (HQ.o.grow bg) Aj);have HH:Y0 (aN b (qe b i) 0 0=0):=rfl;rw[←HH.o] at HI;clear Aj bg HQ HH;go_upto_region 10 with fail;generalize w2.alloc (.cells (zD EE EG EA EC ED EF E8 EB) 239)=W2 at*;generalize w2.heap.size=g8 at*;have XU:Y0 (RcI w W2 b (zC b (some ⟨bs,os,none⟩) cs Al cl) gm Bo (.slice Ao i co) i g8 (aN b (qe b i) 0 0) (30+31*0)):=HI
  clear HI;go_loopg [9] b.loads.length (fun hk kx wr=>∃k:Nat,hk+k=b.loads.length∧kx=.int .i64 k∧Y0 (RcI w wr b (zC b (some ⟨bs,os,none⟩) cs Al cl) gm Bo (.slice Ao i co) i g8 (aN b (qe b i) 0 k) (30+31*k)))
  case atStart=>exact⟨0,rfl,rfl,XU⟩
  clear XU;obtain⟨k,hgh,rfl,HI⟩:=hrel;have k0:(0:Int)≤(k:Int):=yE _;by_cases aK:k<b.loads.length
  ·skip
   have k1:(k:Int)<(b.loads.length:Int):=by omega
   have Hgh:=zh hgh;clear hgh;obtain⟨bl,ol,rfl,aI,dR⟩:=uw.o k aK;obtain⟨cG,dc⟩:=dR k aK;have Hx2:Y0 (w.cell? ⟨bl,ol+k*2+1,none⟩=some (.int .i64 b.loads[k].wt)):=dc;have cG:=(HI.o.st.bel.cell (p:=⟨bl,ol+k*2,none⟩) aI).trans cG;have dc:=(HI.o.st.bel.cell (p:=⟨bl,ol+k*2+1,none⟩) aI).trans dc;have z0:=(HI.o.st.bel.cell (p:=⟨bs,os+0,none⟩) gL).trans (mI.o 0 (by omega));have z1:=(HI.o.st.bel.cell (p:=⟨bs,os+i,none⟩) gL).trans (mI.o i ta)
   have z2:=(HI.o.st.bel.cell (p:=⟨bs,os+(b.sup.length-1),none⟩) gL).trans (mI.o (b.sup.length-1) (by omega));rw[Nat.add_zero] at z0;obtain⟨p1,p2,p3,p4⟩:=Hb.o.loads _ (yV aK);have HOn:=zh (fun y=>C8 (b:=b) (f:=qe b i) (s:=0) (y:=y) aK);have iM:=zh (xS (b:=b) (f:=qe b i) (s:=0) aK);have VW:=zh (Sc b i b.loads[k]);have Md:=zh (Sd b i b.loads[k]);have su:i+1=b.sup.length→ai b (b.sup.length-1)=ai b i:=fun h=>by rw[←h];rfl
   have Be:i=0→ai b 0=ai b i:=fun h=>by rw[h]
   clear dR;generalize b.loads[k]=x at*;obtain⟨pos,wt⟩:=x;simp only at cG dc p1 p2 p3 p4 VW Md Hx2;generalize hsf:ai b 0=sf at*;generalize hsq:ai b i=sq at*;generalize Tx:ai b (b.sup.length-1)=sl at*;have j0:(0:Int)≤(b.sup.length:Int)-1:=by omega
   have j1:(b.sup.length:Int)-1<(b.sup.length:Int):=by omega
   have j2:((b.sup.length:Int)-1).toNat=b.sup.length-1:=by omega
   have j5:IntKind.i64.wrap ((b.sup.length:Int)-1)=(b.sup.length:Int)-1:=yF _ (by omega);have c3:=HI.o.st.bm.cell 3;simp only[aB,aD,aA] at c3;go_upto_region 13 with fail;go_cut [75] from 44 to 75 (fun s wx=>s=.bool (decide (pos=sq∨(i=0∧pos<sf)∨(i+1=b.sup.length∧sq<pos)))∧wx=wr)
   case first=>
    by_cases t1:pos=sq
    ·have e1:(pos==sq)=true:=beq_iff_eq.2 t1;have e9:decide (pos=sq∨(i=0∧pos<sf)∨(i+1=b.sup.length∧sq<pos))=true:=yD (.inl t1);have E9:=zh e9;clear e9 t1;go_wp2_with fail;go_meet;exact⟨congrArg Value.bool E9.o.symm,rfl⟩
    have e1:(pos==sq)=false:=zb t1;by_cases t2:i=0
    ·have e2:((i:Int)==0)=true:=beq_iff_eq.2 (by omega);by_cases t3:pos<sf
     ·have e3:decide (pos<sf)=true:=yD t3;have E9:Y0 (decide (pos=sq∨(i=0∧pos<sf)∨(i+1=b.sup.length∧sq<pos))=true):=yD (.inr (.inl ⟨t2,t3⟩));clear t1 t2 t3;go_wp2_with fail;go_meet;exact⟨congrArg Value.bool E9.o.symm,rfl⟩
     have e3:decide (pos<sf)=false:=yC t3;by_cases t4:i+1=b.sup.length
     ·have e4:((i:Int)==(b.sup.length:Int)-1)=true:=beq_iff_eq.2 (by omega);have t5:sl<pos:=by have:=su t4;have:=Be t2;omega
      have e5:decide (sl<pos)=true:=yD t5;have E9:Y0 (decide (pos=sq∨(i=0∧pos<sf)∨(i+1=b.sup.length∧sq<pos))=true):=yD (.inr (.inr ⟨t4,by have:=su t4;omega⟩));clear t1 t2 t3 t4 t5 su Be;go_wp2_with fail;go_meet;exact⟨congrArg Value.bool E9.o.symm,rfl⟩
     have e4:((i:Int)==(b.sup.length:Int)-1)=false:=zb (by omega);have E9:Y0 (decide (pos=sq∨(i=0∧pos<sf)∨(i+1=b.sup.length∧sq<pos))=false):=yC (fun h=>by rcases h with h|h|h <;> omega);clear t1 t2 t3 t4 su Be;go_wp2_with fail;go_meet;exact⟨congrArg Value.bool E9.o.symm,rfl⟩
    have e2:((i:Int)==0)=false:=zb (by omega);by_cases t4:i+1=b.sup.length
    ·have e4:((i:Int)==(b.sup.length:Int)-1)=true:=beq_iff_eq.2 (by omega);by_cases t5:sl<pos
     ·have e5:decide (sl<pos)=true:=yD t5;have E9:Y0 (decide (pos=sq∨(i=0∧pos<sf)∨(i+1=b.sup.length∧sq<pos))=true):=yD (.inr (.inr ⟨t4,by have:=su t4;omega⟩));clear t1 t2 t4 t5 su Be;go_wp2_with fail;go_meet;exact⟨congrArg Value.bool E9.o.symm,rfl⟩
     have e5:decide (sl<pos)=false:=yC t5;have E9:Y0 (decide (pos=sq∨(i=0∧pos<sf)∨(i+1=b.sup.length∧sq<pos))=false):=yC (fun h=>by have:=su t4;rcases h with h|h|h <;> omega);clear t1 t2 t4 t5 su Be;go_wp2_with fail;go_meet;exact⟨congrArg Value.bool E9.o.symm,rfl⟩
    have e4:((i:Int)==(b.sup.length:Int)-1)=false:=zb (by omega);have E9:Y0 (decide (pos=sq∨(i=0∧pos<sf)∨(i+1=b.sup.length∧sq<pos))=false):=yC (fun h=>by rcases h with h|h|h <;> omega);clear t1 t2 t4 su Be;go_wp2_with fail;go_meet;exact⟨congrArg Value.bool E9.o.symm,rfl⟩
   obtain⟨rfl,rfl⟩:=hcut;clear z0 z1 z2 su Be c3;by_cases hE:pos=sq∨(i=0∧pos<sf)∨(i+1=b.sup.length∧sq<pos)
   ·rw[yD hE];have r6:=zh (HOn.o _ (VW.o hE));have mz:wt.natAbs≤1152921504606846976:=by omega
    clear hE HOn iM VW Md;obtain⟨li,lk,kY,lg,lh,lj,kX,lf,hB,hE⟩:=HI.o.sum;obtain⟨y0,y1,y2,y3⟩:=hB.c4;have HE:=zh hE;clear hB hE;have c3:=HI.o.st.bm.cell 3;simp only[aB,aD,aA] at c3;go_upto_region 14 with fail;have wP:=YL y0;have wO:=YL y1;have xB:=YL y2;have xA:=YL y3;have B0:=YL c3;have Y2:=YL dc;clear y0 y1 y2 y3 c3 dc;refine af 10 (fun jx=>if jx=7 then some (gI [wt]) else if jx=8 then some (jw (Zu 1 [wt]) 30) else if jx=9 then some (jw (aN b (qe b i) 0 k+Zu 1 [wt]) (30+31*(k+1))) else none) (by kernel_rfl) (by kernel_rfl) ?_
    simp only[aO,aR,aP,aQ];refine zw 7 ?_;simp only[aO,aR,aP,aQ]
    repeat (go_big_quiet_step (fail))
    refine YE ?_;refine aX rfl rfl (fun w1 ak _=>fm (T:=3) (l:=[wt]) (yU rfl) (by go_simp)) ?_;rintro _ ⟨g83,rfl⟩;simp only[Act.put,aw,av,au];refine ae rfl rfl ?_ ?_
    ·intro w1 ak hk;have h83:ct w1 w1.heap.size (.slice (some ⟨g83,0,none⟩) 1 1) [wt]:=hk 83 zk;have hC:=fF 1 _ [wt] w1 h83 (yU rfl) (BG mz) (by decide) (by decide);exact zc (Zg hC)
    rintro _ ⟨qz7,qz9,qz3,qz5,qz6,qz8,qz2,qz4,rfl⟩;simp only[Act.put,aw,av,au];refine ae rfl rfl ?_ ?_
    ·intro w1 ak hk;have h84:ExqAt w1 w1.heap.size (.agg (zD qz7 qz9 qz3 qz5 qz6 qz8 qz2 qz4)) (Zu 1 [wt]) 30:=hk 84 zk;have hC:=ig _ _ _ _ (30+31*k) 30 w1 (HE.o.grow ak) h84 (by omega);exact zc (Zg hC)
    rintro _ ⟨ND,NG,N9,NB,NC,NF,N8,NA,rfl⟩;simp only[Act.put,aw,av,au];refine Zc ?_;intro w8 aT hF;have kk:ExqAt w8 w8.heap.size (.agg (zD ND NG N9 NB NC NF N8 NA)) (aN b (qe b i) 0 k+Zu 1 [wt]) (30+31*(k+1)):=hF 85;have HG:=HI.o.grow aT;obtain⟨_,_,_,_,_,_,_,_,eo,-⟩:=HG.sum;have oX:=zh (HG.put kk);obtain⟨q0,q1,q2,q3⟩:=eo.c4;have Ar:=eo.frozen (0);have Aq:=eo.frozen (1);have Ap:=eo.frozen (2);have An:=eo.frozen (3)
    clear hF kk eo HG aT HE HI wP wO xB xA B0 Y2;rw[←r6.o] at oX;go_wp2_with fail;clear q0 q1 q2 q3 Ar Aq Ap An r6;go_roundg (b.loads.length-(k+1))
    case rel=>exact⟨k+1,by omega,by go_num,oX⟩
    have:=Hgh.o;omega
   rw[yC hE];have r6:=zh (iM.o (Md.o hE));have oX:Y0 (RcI w wc b (zC b (some ⟨bs,os,none⟩) cs (some ⟨bl,ol,none⟩) cl) gm Bo (.slice Ao i co) i g8 (aN b (qe b i) 0 (k+1)) (30+31*(k+1))):=by
    rw[r6.o];exact HI.o.more (by omega)
   clear hE HOn iM VW Md HI r6;go_wp2_with fail;go_roundg (b.loads.length-(k+1))
   case rel=>exact⟨k+1,by omega,by go_num,oX⟩
   have:=Hgh.o;omega
  skip
  obtain rfl:k=b.loads.length:=by omega
  have Eh:Y0 (RcI w wr b (zC b (some ⟨bs,os,none⟩) cs Al cl) gm Bo (.slice Ao i co) i g8 (Nq b i) 1270):=HI.o.more (by omega);have c3:=Eh.o.st.bm.cell 3;simp only[aB,aD,aA] at c3;clear HI;go_upto_if 87 with fail;clear c3;go_cut [8] from 87 to 96 (fun s8 wx=>s8=.pointer (some ⟨g8,0,none⟩)∧Y0 (RcI w wx b (zC b (some ⟨bs,os,none⟩) cs Al cl) gm Bo (.slice Ao i co) i g8 (Er b i) 1301))
  case first=>
   by_cases t0:i=0
   ·have e0:((i:Int)==0)=true:=beq_iff_eq.2 (by omega);have mV:Y0 (Nq b i+Zu 1000 [b.even,ai b 0]=Er b i):=by unfold Y0 Er;rw[if_pos t0]
    have z0:=(Eh.o.st.bel.cell (p:=⟨bs,os+0,none⟩) gL).trans (mI.o 0 (by omega));rw[Nat.add_zero] at z0;have t4:=Hb.o.sup 0 (by omega);clear t0;generalize ai b 0=sf at*;have mz:b.even.natAbs≤1152921504606846976:=by omega
    have lQ:sf.natAbs≤1152921504606846976:=by omega
    obtain⟨li,lk,kY,lg,lh,lj,kX,lf,hB,hE⟩:=Eh.o.sum;obtain⟨y0,y1,y2,y3⟩:=hB.c4;have HE:=zh hE;clear hB hE;have c4:=Eh.o.st.bm.cell 4;simp only[aB,aD,aA] at c4;go_upto_region 16 with fail;have wP:=YL y0;have wO:=YL y1;have xB:=YL y2;have xA:=YL y3;have uc4:=YL c4;have Tv:=YL z0;clear y0 y1 y2 y3 c4 z0;refine af 9 (fun jx=>if jx=6 then some (gI [b.even,sf]) else if jx=7 then some (jw (Zu 1000 [b.even,sf]) 30) else if jx=8 then some (jw (Nq b i+Zu 1000 [b.even,sf]) 1301) else none) (by kernel_rfl) (by kernel_rfl) ?_
    simp only[aO,aR,aP,aQ];refine zw 6 ?_;simp only[aO,aR,aP,aQ]
    repeat (go_big_quiet_step (fail))
    refine YE ?_;refine aX rfl rfl (fun w1 ak _=>fm (T:=3) (l:=[b.even,sf]) (yU rfl) (by go_simp)) ?_;rintro _ ⟨g94,rfl⟩;simp only[Act.put,aw,av,au];refine ae rfl rfl ?_ ?_
    ·intro w1 ak hk;have h94:ct w1 w1.heap.size (.slice (some ⟨g94,0,none⟩) 2 2) [b.even,sf]:=hk 94 zk;have hC:=fF 1000 _ [b.even,sf] w1 h94 (yU rfl) (xF mz lQ) (by decide) (by decide);exact zc (Zg hC)
    rintro _ ⟨qzR,qzT,qzN,qzP,qzQ,qzS,qzM,qzO,rfl⟩;simp only[Act.put,aw,av,au];refine ae rfl rfl ?_ ?_
    ·intro w1 ak hk;have h95:ExqAt w1 w1.heap.size (.agg (zD qzR qzT qzN qzP qzQ qzS qzM qzO)) (Zu 1000 [b.even,sf]) 30:=hk 95 zk;have hC:=ig _ _ _ _ 1270 30 w1 (HE.o.grow ak) h95 (by omega);exact zc (Zg hC)
    rintro _ ⟨qzJ,qzL,qzF,qzH,qzI,qzK,qzE,qzG,rfl⟩;simp only[Act.put,aw,av,au];refine Zc ?_;intro w8 aT hF;have kk:ExqAt w8 w8.heap.size (.agg (zD qzJ qzL qzF qzH qzI qzK qzE qzG)) (Nq b i+Zu 1000 [b.even,sf]) 1301:=hF 96;have HG:=Eh.o.grow aT;obtain⟨_,_,_,_,_,_,_,_,eo,-⟩:=HG.sum;have Ka:=zh (HG.put kk);obtain⟨q0,q1,q2,q3⟩:=eo.c4;have Ar:=eo.frozen (0);have Aq:=eo.frozen (1);have Ap:=eo.frozen (2)
    have An:=eo.frozen (3);clear hF kk eo HG aT HE Eh wP wO xB xA uc4 Tv;rw[mV.o] at Ka;go_wp2_with fail;go_meet;exact⟨rfl,Ka⟩
   have e0:((i:Int)==0)=false:=zb (by omega);have Ka:Y0 (RcI w wr b (zC b (some ⟨bs,os,none⟩) cs Al cl) gm Bo (.slice Ao i co) i g8 (Er b i) 1301):=by
    have e:Nq b i=Er b i:=by unfold Er;rw[if_neg t0]
    rw[←e];exact Eh.o.more (by decide)
   clear Eh t0;go_wp2_with fail;go_meet;exact⟨rfl,Ka⟩
  obtain⟨rfl,Ka⟩:=hcut;clear Eh;have j0:(0:Int)≤(b.sup.length:Int)-1:=by omega
  have j1:(b.sup.length:Int)-1<(b.sup.length:Int):=by omega
  have j2:((b.sup.length:Int)-1).toNat=b.sup.length-1:=by omega
  have j5:IntKind.i64.wrap ((b.sup.length:Int)-1)=(b.sup.length:Int)-1:=yF _ (by omega);go_upto_if 100 with fail;go_cut [8] from 100 to 114 (fun s8 wx=>s8=.pointer (some ⟨g8,0,none⟩)∧Y0 (RcI w wx b (zC b (some ⟨bs,os,none⟩) cs Al cl) gm Bo (.slice Ao i co) i g8 (BQ b i) (1332)))
  case first=>
   by_cases t0:i+1=b.sup.length
   ·have e0:((i:Int)==(b.sup.length:Int)-1)=true:=beq_iff_eq.2 (by omega);have mV:Y0 (Er b i+Zu 1000 [b.even,b.len-ai b i]=BQ b i):=by unfold Y0 BQ;rw[if_pos t0]
    have z0:=(Ka.o.st.bel.cell (p:=⟨bs,os+(b.sup.length-1),none⟩) gL).trans (mI.o (b.sup.length-1) (by omega));have t4:=Hb.o.sup i ta;have ei:b.sup.length-1=i:=by omega
    rw[show ai b (b.sup.length-1)=ai b i by rw[ei]] at z0;clear t0 ei;generalize ai b i=sf at*;have mz:b.even.natAbs≤1152921504606846976:=by omega
    have lQ:(b.len-sf).natAbs≤1152921504606846976:=by omega
    have v7:IntKind.i64.wrap (b.len-sf)=b.len-sf:=yF _ (by omega);obtain⟨li,lk,kY,lg,lh,lj,kX,lf,hB,hE⟩:=Ka.o.sum;obtain⟨y0,y1,y2,y3⟩:=hB.c4;have HE:=zh hE;clear hB hE;have c1:=Ka.o.st.bm.cell 1;have c4:=Ka.o.st.bm.cell 4;simp only[aB,aD,aA] at c1 c4;go_upto_region 18 with fail;have wP:=YL y0;have wO:=YL y1;have xB:=YL y2;have xA:=YL y3;have EK:=YL c1;have uc4:=YL c4;have Tv:=YL z0;clear y0 y1 y2 y3 c1 c4 z0
    refine af 14 (fun jx=>if jx=11 then some (gI [b.even,b.len-sf]) else if jx=12 then some (jw (Zu 1000 [b.even,b.len-sf]) 30) else if jx=13 then some (jw (Er b i+Zu 1000 [b.even,b.len-sf]) (1332)) else none) (by kernel_rfl) (by kernel_rfl) ?_;simp only[aO,aR,aP,aQ];refine zw 11 ?_;simp only[aO,aR,aP,aQ]
    repeat (go_big_quiet_step (fail))
    refine YE ?_;refine aX rfl rfl (fun w1 ak _=>fm (T:=3) (l:=[b.even,b.len-sf]) (yU rfl) (by go_simp)) ?_;rintro _ ⟨vwr,rfl⟩;simp only[Act.put,aw,av,au];refine ae rfl rfl ?_ ?_
    ·intro w1 ak hk;have vwg:ct w1 w1.heap.size (.slice (some ⟨vwr,0,none⟩) 2 2) [b.even,b.len-sf]:=hk 112 zk;have hC:=fF 1000 _ [b.even,b.len-sf] w1 vwg (yU rfl) (xF mz lQ) (by decide) (by decide);exact zc (Zg hC)
    rintro _ ⟨qxD,qxF,qxz,qxB,qxC,qxE,qxy,qxA,rfl⟩;simp only[Act.put,aw,av,au];refine ae rfl rfl ?_ ?_
    ·intro w1 ak hk;have qjP:ExqAt w1 w1.heap.size (.agg (zD qxD qxF qxz qxB qxC qxE qxy qxA)) (Zu 1000 [b.even,b.len-sf]) 30:=hk 113 zk;have hC:=ig _ _ _ _ 1301 30 w1 (HE.o.grow ak) qjP (by omega);exact zc (Zg hC)
    rintro _ ⟨Ge,Gg,Ga,Gc,Gd,Gf,FZ,Gb,rfl⟩;simp only[Act.put,aw,av,au];refine Zc ?_;intro w8 aT hF;have kk:ExqAt w8 w8.heap.size (.agg (zD Ge Gg Ga Gc Gd Gf FZ Gb)) (Er b i+Zu 1000 [b.even,b.len-sf]) (1332):=hF 114;have HG:=Ka.o.grow aT;obtain⟨_,_,_,_,_,_,_,_,eo,-⟩:=HG.sum;have HI5:=zh (HG.put kk);obtain⟨q0,q1,q2,q3⟩:=eo.c4;have Ar:=eo.frozen (0);have Aq:=eo.frozen (1);have Ap:=eo.frozen (2);have An:=eo.frozen (3)
    clear hF kk eo HG aT HE Ka wP wO xB xA EK uc4 Tv;rw[mV.o] at HI5;go_wp2_with fail;go_meet;exact⟨rfl,HI5⟩
   have e0:((i:Int)==(b.sup.length:Int)-1)=false:=zb (by omega);have HI5:Y0 (RcI w wc b (zC b (some ⟨bs,os,none⟩) cs Al cl) gm Bo (.slice Ao i co) i g8 (BQ b i) (1332)):=by
    have e:Er b i=BQ b i:=by unfold BQ;rw[if_neg t0]
    rw[←e];exact Ka.o.more (by decide)
   clear Ka t0;go_wp2_with fail;go_meet;exact⟨rfl,HI5⟩
  obtain⟨rfl,HI5⟩:=hcut;clear Ka j0 j1 j2 j5;have wU:Y0 (RcI w wc b (zC b (some ⟨bs,os,none⟩) cs Al cl) gm Bo (.slice Ao i co) i g8 (xI b i 0) (1332+136363*0)):=HI5;clear HI5;go_wp2_with fail;go_loopw [11] (fun kx wr=>∃s:Nat,s≤2∧kx=.int .i64 s∧Y0 (RcI w wr b (zC b (some ⟨bs,os,none⟩) cs Al cl) gm Bo (.slice Ao i co) i g8 (xI b i s) (1332+136363*s))) (fun kx _=>2-(intOf kx).toNat)
  case atStart=>exact⟨0,by decide,rfl,wU⟩
  clear wU;obtain⟨s,hs,rfl,HI⟩:=hrel;rcases s with _|_|s;rotate_right 1
  ·obtain rfl:s=0:=by omega
   have es:((0+1+1:Nat):Int)=2:=rfl;rw[es];have oX:Y0 (RcI w wr b (zC b (some ⟨bs,os,none⟩) cs Al cl) gm Bo (.slice Ao i co) i g8 (KB b i) (274058)):=HI.o;clear es hs HI;obtain⟨li,lk,kY,lg,lh,lj,kX,lf,hB,hE⟩:=oX.o.sum;obtain⟨y0,y1,y2,y3⟩:=hB.c4;have HE:=zh hE;clear hB hE;go_wp2_with fail;refine (Nf _ (KB b i) 274058 wr HE.o (by decide)).mono ?_;rintro e w9 ⟨v9,rfl,fC,hE9⟩;obtain⟨EE,EG,EA,EC,ED,EF,E8,EB,_,_,rfl,-⟩:=cf hE9
   obtain⟨iE,GX,pX,pW,sk⟩:=info_parts CO;have lS:Below w9.heap.size w9 (w9.alloc (.cells (zD EE EG EA EC ED EF E8 EB) 239)):=(yB _ _).alloc (yA _) _;have HQ9:=zh ((oX.o.st.grow fC).grow lS);have HE9:=zh ((hE9.more (K':=280000) (by decide)).grow lS);obtain⟨es,h1,h2,h3⟩:=HQ9.o.o;have H1:=zh h1;have Tb:=zh h2;have H3:=zh h3;have mS:=yL (Blk.new w9 239 (zD EE EG EA EC ED EF E8 EB));have jD:=zh mS;have vO:=HQ9.o.bl
   clear h1 h2 h3 mS hE9 fC lS oX HE y0 y1 y2 y3;go_wp2_with (at_builtin;refine wpList_append_own _ rfl _ _ 186 rfl Bo 239 iE (.agg (zD false none 0 0 false none 0 0)) 4 64 Tryz.underlying186 GX pX pW sk rfl (by decide) _ _ _ rfl Tb.o ⟨w9.heap.size,0,none⟩ 1 1 [.bool EE,.slice EG EA EC,.bool ED,.slice EF E8 EB] rfl rfl jD.o (by simp[Value.oneCell']) (by unfold maxLen;omega) (by omega) vO ?_;intro v' w1 ip eO _;obtain⟨g',wA,rfl⟩:=ownsRow_succ ip)
   have vwz:=zh (HQ9.o.push H1.o Tb.o H3.o HE9.o eO ip);clear ip eO Tb H1 H3 HE9 HQ9 jD vO GX pX pW sk;go_roundg (b.sup.length-(i+1))
   case rel=>exact⟨i+1,_,_,by omega,by go_num,rfl,vwz⟩
   have:=Hgk.o;omega
  case' zero=>
   by_cases m9:0<i
   case neg=>
    have es:((0:Nat):Int)=0:=rfl;rw[es];clear es hs;have oX:Y0 (RcI w wr b (zC b (some ⟨bs,os,none⟩) cs Al cl) gm Bo (.slice Ao i co) i g8 (xI b i 1) (1332+136363*1)):=by
     have e:BQ b i=Ff b i:=by unfold Ff;rw[if_neg m9]
     exact (HI.o.is (q':=xI b i 1) e).more (by decide)
    clear HI;have v1:IntKind.i64.wrap ((i:Int)-1)=-1:=(yF _ (by omega)).trans (by omega);have d1:decide ((-1:Int)<0)=true:=by decide
    clear m9;go_wp2_with fail;go_roundw
    case rel=>exact⟨1,by decide,rfl,oX⟩
    simp[intOf]
   have es:((0:Nat):Int)=0:=rfl;rw[es];clear es hs;obtain⟨K,hK⟩:∃K:Nat,K=1332:=⟨_,rfl⟩;obtain⟨q,hq⟩:∃q,q=BQ b i:=⟨_,rfl⟩;obtain⟨q9,hq9⟩:∃q9,q9=Ff b i:=⟨_,rfl⟩;obtain⟨left,hlf⟩:∃l:Bool,l=false:=⟨_,rfl⟩;have XU:Y0 (RcI w wr b (zC b (some ⟨bs,os,none⟩) cs Al cl) gm Bo (.slice Ao i co) i g8 q K):=by rw[hK,hq];exact HI
   obtain⟨p,hp⟩:∃p,p+1=i:=⟨i-1,by omega⟩;have v1:IntKind.i64.wrap ((i:Int)-1)=(p:Int):=(yF _ (by omega)).trans (by omega);have t1:=Hb.o.inc p (by omega);have hip:i-1=p:=by omega
   rw[hp] at t1;have hRe:AJ b (ai b p) (ai b i) left (Zx b i) (Zx b p) q=q9:=by rw[hq,hq9,hlf];unfold Ff;rw[if_pos m9,hip]
   obtain⟨lo,qS⟩:=zo (ai b p);obtain⟨hi,Ri⟩:=zo (ai b i);have hsi:ai b i=hi:=Ri;have hsk:ai b p=lo:=qS;have HSd:Y0 (∀pos d,(if left=true then hi-pos else pos-lo)=d→lo<pos→pos<hi → -1≤lo→hi≤1048576→IntKind.i64.wrap (pos-lo)=d∧decide (d<0)=false∧IntKind.i64.wrap d=d∧IntKind.i64.wrap (0 - -d)=d∧1≤d∧d≤1048577):=fun pos d h0 h1 h2 h3 h4=>by
    rw[hlf] at h0;rw[if_neg (by decide)] at h0;exact⟨(yF _ (by omega)).trans (by omega),yC (by omega),yF _ (by omega),(yF _ (by omega)).trans (by omega),by omega,by omega⟩
   have hKb:K≤137695:=by omega
   clear HI hip hlf qS Ri hq
  case' succ.zero=>
   by_cases m9:i+1<b.sup.length
   case neg=>
    have es:((0+1:Nat):Int)=1:=rfl;rw[es];clear es hs;have oX:Y0 (RcI w wr b (zC b (some ⟨bs,os,none⟩) cs Al cl) gm Bo (.slice Ao i co) i g8 (xI b i 2) (1332+136363*2)):=by
     have e:Ff b i=KB b i:=by unfold KB;rw[if_neg m9]
     exact (HI.o.is (q':=xI b i 2) e).more (by decide)
    clear HI;have v0:IntKind.i64.wrap ((i:Int)-1)=(i:Int)-1:=yF _ (by omega);have v1:IntKind.i64.wrap ((i:Int)+1)=(b.sup.length:Int):=(yF _ (by omega)).trans (by omega);have d1:decide ((b.sup.length:Int)<0)=false:=yC (by omega);clear m9;go_wp2_with fail;go_roundw
    case rel=>exact⟨2,by decide,rfl,oX⟩
    simp[intOf]
   have es:((0+1:Nat):Int)=1:=rfl;rw[es];clear es hs;obtain⟨K,hK⟩:∃K:Nat,K=137695:=⟨_,rfl⟩;obtain⟨q,hq⟩:∃q,q=Ff b i:=⟨_,rfl⟩;obtain⟨q9,hq9⟩:∃q9,q9=KB b i:=⟨_,rfl⟩;obtain⟨left,hlf⟩:∃l:Bool,l=true:=⟨_,rfl⟩;have XU:Y0 (RcI w wr b (zC b (some ⟨bs,os,none⟩) cs Al cl) gm Bo (.slice Ao i co) i g8 q K):=by rw[hK,hq];exact HI
   obtain⟨p,hp⟩:=zo (i+1);have v0:IntKind.i64.wrap ((i:Int)-1)=(i:Int)-1:=yF _ (by omega);have v1:IntKind.i64.wrap ((i:Int)+1)=(p:Int):=(yF _ (by omega)).trans (by omega);have t1:=Hb.o.inc i (by omega);have hip:=hp;rw[hp] at t1;have hRe:AJ b (ai b i) (ai b p) left (Zx b i) (Zx b p) q=q9:=by rw[hq,hq9,hlf];unfold KB;rw[if_pos m9,hip]
   obtain⟨lo,qS⟩:=zo (ai b i);obtain⟨hi,Ri⟩:=zo (ai b p);have hsi:ai b i=lo:=qS;have hsk:ai b p=hi:=Ri;have HSd:Y0 (∀pos d,(if left=true then hi-pos else pos-lo)=d→lo<pos→pos<hi → -1≤lo→hi≤1048576→IntKind.i64.wrap (pos-hi)=-d∧decide (-d<0)=true∧IntKind.i64.wrap d=d∧IntKind.i64.wrap (0 - -d)=d∧1≤d∧d≤1048577):=fun pos d h0 h1 h2 h3 h4=>by
    rw[hlf] at h0;rw[if_pos rfl] at h0;exact⟨(yF _ (by omega)).trans (by omega),yD (by omega),yF _ (by omega),(yF _ (by omega)).trans (by omega),by omega,by omega⟩
   have hKb:K≤137695:=by omega
   clear HI hip hlf qS Ri hq
  all_goals
   as_aux_lemma=>
    have hpn:p<b.sup.length:=by omega
    have z1:=(XU.o.st.bel.cell (p:=⟨bs,os+i,none⟩) gL).trans (mI.o i ta);have zj:=(XU.o.st.bel.cell (p:=⟨bs,os+p,none⟩) gL).trans (mI.o p hpn);have hzk:=mI.o p hpn;rw[hsk] at hzk zj;rw[hsi] at z1;have Hzk:=zh hzk;have t2:=Hb.o.sup i ta;have t3:=Hb.o.sup p hpn;have p0:(0:Int)≤(p:Int):=yE _;have pn:(p:Int)<(b.sup.length:Int):=by omega
    have d1:decide ((p:Int)<0)=false:=yC (by omega);have d2:decide ((b.sup.length:Int)≤(p:Int))=false:=yC (by omega);have d3:decide (b.sup.length≤p)=false:=yC (by omega);have Hp:=zh hp;rw[hsi] at t1 t2 hRe;rw[hsk] at t1 t3 hRe;have wI:=zh hRe;obtain⟨t21,t22⟩:=t2;obtain⟨t31,t32⟩:=t3;obtain⟨l,hl⟩:=zo (hi-lo);have l1:1≤l:=by omega
    obtain⟨m1,m2,m3,m4⟩:max lo hi=hi∧max hi lo=hi∧min lo hi=lo∧min hi lo=lo:=by omega
    have l2:l≤1048576:=by omega
    have v2:IntKind.i64.wrap (hi-lo)=l:=(yF _ (by omega)).trans hl;have Hl:=zh hl;clear hp m9 hl hsi hsk hzk hRe;go_upto_region 26 with fail;go_quiet (fail);go_upto_region 28 with fail;generalize hdw:wr.drewN nq=W5 at*;have HI1:Y0 (RcI w W5 b (zC b (some ⟨bs,os,none⟩) cs Al cl) gm Bo (.slice Ao i co) i g8 q K):=by rw[←hdw];exact XU.o.grow (Zf (yB _ _) _)
    clear hdw XU z1 zj d1 d2 d3;have mz:b.even.natAbs≤1152921504606846976:=by omega
    have lQ:l.natAbs≤1152921504606846976:=by omega
    obtain⟨li,lk,kY,lg,lh,lj,kX,lf,hB,hE⟩:=HI1.o.sum;obtain⟨y0,y1,y2,y3⟩:=hB.c4;have HE:=zh hE;clear hB hE;have c4:=HI1.o.st.bm.cell 4;simp only[aB,aD,aA] at c4;have wP:=YL y0;have wO:=YL y1;have xB:=YL y2;have xA:=YL y3;have uc4:=YL c4;clear y0 y1 y2 y3 c4;refine af 7 (fun jx=>if jx=4 then some (gI [b.even,l]) else if jx=5 then some (jw (Zu 2000 [b.even,l]) 30) else if jx=6 then some (jw (q+Zu 2000 [b.even,l]) (K+31)) else none) (by kernel_rfl) (by kernel_rfl) ?_
    simp only[aO,aR,aP,aQ];refine zw 4 ?_;simp only[aO,aR,aP,aQ]
    repeat (go_big_quiet_step (fail))
    refine YE ?_;refine aX rfl rfl (fun w1 ak _=>fm (T:=3) (l:=[b.even,l]) (yU rfl) (by go_simp)) ?_;rintro _ ⟨vwm,rfl⟩;simp only[Act.put,aw,av,au];refine ae rfl rfl ?_ ?_
    ·intro w1 ak hk;have Vd:ct w1 w1.heap.size (.slice (some ⟨vwm,0,none⟩) 2 2) [b.even,l]:=hk 157 zk;have hC:=fF 2000 _ [b.even,l] w1 Vd (yU rfl) (xF mz lQ) (by decide) (by decide);exact zc (Zg hC)
    rintro _ ⟨qqX,qqZ,qqT,qqV,qqW,qqY,qqS,qqU,rfl⟩;simp only[Act.put,aw,av,au];refine ae rfl rfl ?_ ?_
    ·intro w1 ak hk;have vq1:ExqAt w1 w1.heap.size (.agg (zD qqX qqZ qqT qqV qqW qqY qqS qqU)) (Zu 2000 [b.even,l]) 30:=hk 158 zk;have hC:=ig _ _ _ _ K 30 w1 (HE.o.grow ak) vq1 (by omega);exact zc (Zg hC)
    rintro _ ⟨Pq,Ps,Pm,Po,Pp,Pr,Pk,Pn,rfl⟩;simp only[Act.put,aw,av,au];refine Zc ?_;intro w8 aT hF;have kk:ExqAt w8 w8.heap.size (.agg (zD Pq Ps Pm Po Pp Pr Pk Pn)) (q+Zu 2000 [b.even,l]) (K+31):=hF 159;have HG:=HI1.o.grow aT;obtain⟨_,_,_,_,_,_,_,_,eo,-⟩:=HG.sum;have oX:=zh (HG.put kk);obtain⟨q0,q1,q2,q3⟩:=eo.c4;have Ar:=eo.frozen (0);have Aq:=eo.frozen (1);have Ap:=eo.frozen (2);have An:=eo.frozen (3)
    clear hF kk eo HG aT HE HI1 wP wO xB xA uc4;have wV:Y0 (q+Zu 2000 [b.even,l]=jl b lo hi left q 0):=by unfold Y0 jl;rw[Hl.o];rfl
    rw[wV.o] at oX;clear wV;go_wp2_with fail;generalize (((((w8).setCell ⟨g8,0,none⟩ (.bool Pq)).setCell ⟨g8,1,none⟩ (.slice Ps Pm Po)).setCell ⟨g8,2,none⟩ (.bool Pp)).setCell ⟨g8,3,none⟩ (.slice Pr Pk Pn))=W6 at*;clear q0 q1 q2 q3 Ar Aq Ap An;have Eh:Y0 (RcI w W6 b (zC b (some ⟨bs,os,none⟩) cs Al cl) gm Bo (.slice Ao i co) i g8 (jl b lo hi left q 0) (K+31+31*0)):=oX;clear oX;go_loopw [16] (fun kx wr=>∃k:Nat,k≤b.loads.length∧kx=.int .i64 k∧Y0 (RcI w wr b (zC b (some ⟨bs,os,none⟩) cs Al cl) gm Bo (.slice Ao i co) i g8 (jl b lo hi left q k) (K+31+31*k))) (fun kx _=>b.loads.length-(intOf kx).toNat)
    case atStart=>exact⟨0,yI _,rfl,Eh⟩
    clear Eh;obtain⟨k,hk,rfl,HI⟩:=hrel;have k0:(0:Int)≤(k:Int):=yE _;by_cases aK:k<b.loads.length
    ·have k1:(k:Int)<(b.loads.length:Int):=by omega
     obtain⟨bl,ol,rfl,aI,dR⟩:=uw.o k aK;obtain⟨cG,dc⟩:=dR k aK;have cG:=(HI.o.st.bel.cell (p:=⟨bl,ol+k*2,none⟩) aI).trans cG;have dc:=(HI.o.st.bel.cell (p:=⟨bl,ol+k*2+1,none⟩) aI).trans dc;have zj:=(HI.o.st.bel.cell (p:=⟨bs,os+p,none⟩) gL).trans Hzk.o;obtain⟨p1,p2,p3,p4⟩:=Hb.o.loads _ (yV aK);have HOn:=zh (fun y=>C8 (b:=b) (f:=gq lo hi left) (s:=q+Zu 2000 [b.even,hi-lo]) (y:=y) aK);have iM:=zh (xS (b:=b) (f:=gq lo hi left) (s:=q+Zu 2000 [b.even,hi-lo]) aK)
     have VW:=zh (fun d=>GG (lo:=lo) (hi:=hi) (d:=d) (left:=left) (x:=b.loads[k]));have Md:=zh (GH (lo:=lo) (hi:=hi) (left:=left) (x:=b.loads[k]));clear dR;generalize b.loads[k]=x at*;obtain⟨pos,wt⟩:=x;simp only at cG dc p1 p2 p3 p4 VW Md;have c3:=HI.o.st.bm.cell 3;simp only[aB,aD,aA] at c3;by_cases hE:lo<pos∧pos<hi
     ·obtain⟨d,hd⟩:∃d,(if left=true then hi-pos else pos-lo)=d:=⟨_,rfl⟩;obtain⟨v4,e3,v5,v6,e4,e5⟩:=HSd.o pos d hd hE.1 hE.2 (by omega) (by omega);have e1:decide (lo<pos)=true:=yD hE.1;have e2:decide (pos<hi)=true:=yD hE.2;have r6:Y0 (jl b lo hi left q (k+1)=jl b lo hi left q k+Zu l [wt,d]):=by
       have:=HOn.o _ (VW.o d hE (by simpa using hd.symm));rw[Hl.o] at this;unfold Y0 jl;rw[Hl.o];exact this
      have xi:wt.natAbs≤1152921504606846976:=by omega
      have hs4:d.natAbs≤1152921504606846976:=by omega
      have l3:0<l:=by omega
      have l4:l≤1152921504606846976:=by omega
      clear hE hd HOn iM VW Md;obtain⟨li,lk,kY,lg,lh,lj,kX,lf,hB,hE⟩:=HI.o.sum;obtain⟨y0,y1,y2,y3⟩:=hB.c4;have HE:=zh hE;clear hB hE;go_upto_region 37 with fail;have wP:=YL y0;have wO:=YL y1;have xB:=YL y2;have xA:=YL y3;have B0:=YL c3;have Y2:=YL dc;clear y0 y1 y2 y3 c3 dc;refine af 12 (fun jx=>if jx=8 then some (gI [wt,d]) else if jx=10 then some (jw (Zu l [wt,d]) 30) else if jx=11 then some (jw (jl b lo hi left q k+Zu l [wt,d]) (K+31+31*(k+1))) else none) (by kernel_rfl) (by kernel_rfl) ?_
      simp only[aO,aR,aP,aQ];refine zw 8 ?_;simp only[aO,aR,aP,aQ]
      repeat (go_big_quiet_step (fail))
      refine YE ?_;refine aX rfl rfl (fun w1 ak _=>fm (T:=3) (l:=[wt,d]) (yU rfl) (by go_simp)) ?_;rintro _ ⟨vwl,rfl⟩;simp only[Act.put,aw,av,au];refine zw 1 ?_;simp only[aO,aR,aP,aQ]
      repeat (go_big_quiet_step (fail))
      refine YE ?_;refine ae rfl rfl ?_ ?_
      ·intro w1 ak hk;have qjK:ct w1 w1.heap.size (.slice (some ⟨vwl,0,none⟩) 2 2) [wt,d]:=hk 199 zk;have hC:=fF l _ [wt,d] w1 qjK (yU rfl) (xF xi hs4) l3 l4;exact zc (Zg hC)
      rintro _ ⟨ZT,ZV,ZP,ZR,ZS,ZU,ZO,ZQ,rfl⟩;simp only[Act.put,aw,av,au];refine ae rfl rfl ?_ ?_
      ·intro w1 ak hk;have vqV:ExqAt w1 w1.heap.size (.agg (zD ZT ZV ZP ZR ZS ZU ZO ZQ)) (Zu l [wt,d]) 30:=hk 201 zk;have hC:=ig _ _ _ _ (K+31+31*k) 30 w1 (HE.o.grow ak) vqV (by omega);exact zc (Zg hC)
      rintro _ ⟨ZL,ZN,ZH,ZJ,ZK,ZM,ZG,ZI,rfl⟩;simp only[Act.put,aw,av,au];refine Zc ?_;intro w8 aT hF;have kk:ExqAt w8 w8.heap.size (.agg (zD ZL ZN ZH ZJ ZK ZM ZG ZI)) (jl b lo hi left q k+Zu l [wt,d]) (K+31+31*(k+1)):=hF 202;have HG:=HI.o.grow aT;obtain⟨_,_,_,_,_,_,_,_,eo,-⟩:=HG.sum;have oX:=zh (HG.put kk);obtain⟨q0,q1,q2,q3⟩:=eo.c4;have Ar:=eo.frozen (0);have Aq:=eo.frozen (1);have Ap:=eo.frozen (2)
      have An:=eo.frozen (3);clear hF kk eo HG aT HE HI wP wO xB xA B0 Y2;rw[←r6.o] at oX;go_wp2_with fail;clear q0 q1 q2 q3 Ar Aq Ap An r6;go_roundw
      case rel=>exact⟨k+1,by omega,by go_num,oX⟩
      simp[intOf];omega
     have r6:Y0 (jl b lo hi left q (k+1)=jl b lo hi left q k):=iM.o (Md.o hE);have oX:Y0 (RcI w wr b (zC b (some ⟨bs,os,none⟩) cs (some ⟨bl,ol,none⟩) cl) gm Bo (.slice Ao i co) i g8 (jl b lo hi left q (k+1)) (K+31+31*(k+1))):=by
      rw[r6.o];exact HI.o.more (by omega)
     have hc:decide (lo<pos)=false∨decide (lo<pos)=true∧decide (pos<hi)=false:=by
      by_cases h:lo<pos
      ·exact .inr ⟨yD h,yC (fun h2=>hE ⟨h,h2⟩)⟩
      exact .inl (yC h)
     clear hE HOn iM VW Md HI r6;rcases hc with e1|⟨e1,e2⟩
     all_goals
      go_wp2_with fail;go_roundw
      case rel=>exact⟨k+1,by omega,by go_num,oX⟩
      simp[intOf];omega
    obtain rfl:k=b.loads.length:=by omega
    have oX:Y0 (RcI w wr b (zC b (some ⟨bs,os,none⟩) cs Al cl) gm Bo (.slice Ao i co) i g8 (jl b lo hi left q b.loads.length) (K+31+1240)):=HI.o.more (by omega);clear HI;obtain⟨li,lk,kY,lg,lh,lj,kX,lf,hB,hE⟩:=oX.o.sum;obtain⟨y0,y1,y2,y3⟩:=hB.c4;have HE:=zh hE;clear hB hE;have c3:=oX.o.st.bm.cell 3;simp only[aB,aD,aA] at c3;obtain⟨ab1,aA1,al1,ac1,ab2,aA2,al2,ac2,a0,a1,a2,a3,aE⟩:=oX.o.st.m.read (i:=p) hpn
    obtain⟨db1,dA1,dl1,dc1,db2,dA2,dl2,dc2,d0,d1,d2,d3,dE⟩:=oX.o.st.m.read (i:=i) ta;have HA:=zh (aE _ rfl);have HD:=zh (dE _ rfl);have xi:(1:Int).natAbs≤1152921504606846976:=by decide
    have l3:0<l:=by omega
    have l4:l≤1152921504606846976:=by omega
    clear aE dE;go_upto_region 38 with fail;clear c3;have wP:=YL y0;have wO:=YL y1;have xB:=YL y2;have xA:=YL y3;have uF:=YL a0;have uE:=YL a1;have uD:=YL a2;have uC:=YL a3;have MJ:=YL d0;have MI:=YL d1;have MH:=YL d2;have MG:=YL d3;clear y0 y1 y2 y3 a0 a1 a2 a3 d0 d1 d2 d3;refine af 15 (fun jx=>if jx=9 then some (jw (Zx b p-Zx b i) 135061) else if jx=10 then some (gI [1]) else if jx=12 then some (jw (Zu l [1]) 30) else if jx=13 then some (jw ((Zx b p-Zx b i)*Zu l [1]) 135091) else if jx=14 then some (jw (jl b lo hi left q b.loads.length+(Zx b p-Zx b i)*Zu l [1]) (K+136363)) else none) (by kernel_rfl) (by kernel_rfl) ?_
    simp only[aO,aR,aP,aQ];refine zw 9 ?_;simp only[aO,aR,aP,aQ]
    repeat (go_big_quiet_step (fail))
    refine YE ?_;refine ae rfl rfl ?_ ?_
    ·intro w1 ak hk;have hC:=kq _ _ _ _ 67530 67530 w1 (HA.o.grow ak) (HD.o.grow ak) (by decide);exact zc (Zg hC)
    rintro _ ⟨ZD,ZF,Z9,ZB,ZC,ZE,Z8,ZA,rfl⟩;simp only[Act.put,aw,av,au];refine aX rfl rfl (fun w1 ak _=>fm (T:=3) (l:=[1]) (yU rfl) (by go_simp)) ?_;rintro _ ⟨vwk,rfl⟩;simp only[Act.put,aw,av,au];refine zw 1 ?_;simp only[aO,aR,aP,aQ]
    repeat (go_big_quiet_step (fail))
    refine YE ?_;refine ae rfl rfl ?_ ?_
    ·intro w1 ak hk;have vqT:ct w1 w1.heap.size (.slice (some ⟨vwk,0,none⟩) 1 1) [1]:=hk 213 zk;have hC:=fF l _ [1] w1 vqT (yU rfl) (BG xi) l3 l4;exact zc (Zg hC)
    rintro _ ⟨Z5,Z7,Z1,Z3,Z4,Z6,Z0,Z2,rfl⟩;simp only[Act.put,aw,av,au];refine ae rfl rfl ?_ ?_
    ·intro w1 ak hk;have vqU:ExqAt w1 w1.heap.size (.agg (zD ZD ZF Z9 ZB ZC ZE Z8 ZA)) (Zx b p-Zx b i) 135061:=hk 212 zk;have vqS:ExqAt w1 w1.heap.size (.agg (zD Z5 Z7 Z1 Z3 Z4 Z6 Z0 Z2)) (Zu l [1]) 30:=hk 215 zk;have hC:=qD _ _ _ _ 135061 30 w1 vqU vqS (by decide);exact zc (Zg hC)
    rintro _ ⟨Zv,Zz,Zp,Zr,Zt,Zy,Zo,Zq,rfl⟩;simp only[Act.put,aw,av,au];refine ae rfl rfl ?_ ?_
    ·intro w1 ak hk;have vqR:ExqAt w1 w1.heap.size (.agg (zD Zv Zz Zp Zr Zt Zy Zo Zq)) ((Zx b p-Zx b i)*Zu l [1]) 135091:=hk 216 zk;have hC:=ig _ _ _ _ (K+31+1240) 135091 w1 (HE.o.grow ak) vqR (by omega);exact zc (Zg hC)
    rintro _ ⟨Zd,Zk,YY,Za,Zb,Zi,YX,YZ,rfl⟩;simp only[Act.put,aw,av,au];refine Zc ?_;intro w8 aT hF;have kk:ExqAt w8 w8.heap.size (.agg (zD Zd Zk YY Za Zb Zi YX YZ)) (jl b lo hi left q b.loads.length+(Zx b p-Zx b i)*Zu l [1]) (K+136363):=hF 217;have HG:=oX.o.grow aT;obtain⟨_,_,_,_,_,_,_,_,eo,-⟩:=HG.sum;have Eh:=zh (HG.put kk);obtain⟨q0,q1,q2,q3⟩:=eo.c4;have Ar:=eo.frozen (0);have Aq:=eo.frozen (1)
    have Ap:=eo.frozen (2);have An:=eo.frozen (3);clear hF kk eo HG aT HE oX wP wO xB xA uF uE uD uC MJ MI MH MG HA HD;have HQ1:Y0 (jl b lo hi left q b.loads.length+(Zx b p-Zx b i)*Zu l [1]=q9):=by
     have:=V7 b lo hi left (Zx b i) (Zx b p) (q);rw[Hl.o] at this;exact this.trans wI.o
    rw[HQ1.o] at Eh;clear HQ1;go_wp2_with fail;clear q0 q1 q2 q3 Ar Aq Ap An;rw[hq9,hK] at Eh;go_roundw
    case rel=>first|exact⟨1,by decide,rfl,Eh⟩|exact⟨2,by decide,rfl,Eh⟩
    simp[intOf]
 obtain rfl:i=b.sup.length:=by omega
 have HR:=zh HQ.o.o.eqs;have HBE:=zh HQ.o.bel;have HL:Y0 ((List.range b.sup.length).map (KB b)=dP b):=List.map_congr_left fun j hj=>qzs b Hb.o.inc j (List.mem_range.1 hj);rw[HL.o] at HR;clear HQ;go_wp2_with fail;refine YF (results_tmp rfl _ _ _) (by rfl) ?_;exact⟨HBE.o,_,rfl,HR.o⟩
