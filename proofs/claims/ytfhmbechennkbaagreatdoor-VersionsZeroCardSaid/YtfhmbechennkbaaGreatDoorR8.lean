/- Lemmas. -/
import Derived.Deep.DeepCutAuto
import Derived.Test.YtfhmbechennkbaaGreatDoorC6
import Derived.Test.YtfhmbechennkbaaGreatDoorR7
namespace Go.Proofs.YtfhmbechennkbaaGreatDoor
set_option maxRecDepth 100000
set_option maxHeartbeats 40000000
open Go.RowKit Go.Shelf
theorem qxE {w0 w:World} {v:Value} {q:Rat} {K:Nat} {e:Ending} {w':World} (hv:ExqAt w0 w0.heap.size v q K) (h:Ft w q e w'):fa w q K e w':=by
 obtain⟨s1,v1,s2,v2,N,D,-,h1,h2,h3,h4,h5,rfl⟩:=hv
 obtain⟨e1,e2⟩:=rS (n:=N) (d:=D) (by omega)
 refine Nu h ?_ ?_
 ·rw[e1]
  exact yH (cC (Nat.div_le_self _ _)) h4
 rw[e2]
 exact yH (cC (Nat.div_le_self _ _)) h5
theorem R4 (v:Value) (x:Rat) (K:Nat) (w:World) (hv:ExqAt w w.heap.size v x K) (hK:K≤300000):Calls Tryz.prog 137 #[v] w (fa w x K) :=
 (En v x K w hv hK).mono fun _ _ h=>qxE hv h
theorem AJ {b:BeamT} {f:LoadT→Option Rat} {s y:Rat} {k:Nat} (hk:k<b.loads.length) (h:f b.loads[k]=some y):aD b f s (k+1)=aD b f s k+y:=by
 rw[Zl hk,h]
theorem tq {b:BeamT} {f:LoadT→Option Rat} {s:Rat} {k:Nat} (hk:k<b.loads.length) (h:f b.loads[k]=none):aD b f s (k+1)=aD b f s k:=by
 rw[Zl hk,h]
theorem Xu (b:BeamT) (i:Nat) (x:LoadT) (h:x.pos=ak b i∨(i=0∧x.pos<ak b 0)∨(i+1=b.sup.length∧ak b i<x.pos)):qS b i x=some (Zu 1 [x.wt]):=by
 unfold qS
 rw[if_pos h,rI]
theorem Xv (b:BeamT) (i:Nat) (x:LoadT) (h:¬ (x.pos=ak b i∨(i=0∧x.pos<ak b 0)∨(i+1=b.sup.length∧ak b i<x.pos))):qS b i x=none:=if_neg h
theorem AW {lo hi d:Int} {left:Bool} {x:LoadT} (h:lo<x.pos∧x.pos<hi) (hd:d=if left then hi-x.pos else x.pos-lo):fT lo hi left x=some (Zu (hi-lo) [x.wt,d]):=by
 unfold fT
 rw[if_neg (by omega),hd]
theorem AX {lo hi:Int} {left:Bool} {x:LoadT} (h:¬ (lo<x.pos∧x.pos<hi)):fT lo hi left x=none:=if_pos (by omega)
def dx (b:BeamT) (lo hi:Int) (left:Bool) (s:Rat) (k:Nat):Rat:=aD b (fT lo hi left) (s+Zu 2000 [b.even,hi-lo]) k
theorem Oa (b:BeamT) (lo hi:Int) (left:Bool) (m k s:Rat):dx b lo hi left s b.loads.length+(k-m)*Zu (hi-lo) [1]=Fl b lo hi left m k s:=rfl
def OutQ (w:World) (Bo:Nat) (v:Value) (i:Nat) (f:Nat→Rat) (K:Nat):Prop:=∃ es:List E4,es.length=i∧w.ownsRow Bo 175 4 v i (es.flatMap E4.cells)∧∀ j (hj:j<es.length),ExqAt w w.heap.size es[j].val (f j) K
theorem OutQ.nil (w:World) (Bo:Nat) (f:Nat→Rat) (K:Nat):OutQ w Bo (.slice none 0 0) 0 f K:=⟨[],rfl,yJ _ _ _ _,fun j hj=>by cases hj⟩
theorem OutQ.grow {w w':World} {Bo i K:Nat} {v:Value} {f:Nat→Rat} (h:OutQ w Bo v i f K) (hb:Below w.heap.size w w'):OutQ w' Bo v i f K:=by
 obtain⟨es,h1,h2,h3⟩:=h
 exact⟨es,h1,qC h2 hb,fun j hj=>(h3 j hj).grow hb⟩
theorem OutQ.far4 {w:World} {Bo i K D o:Nat} {v:Value} {f:Nat→Rat} (h:OutQ w Bo v i f K) (hn:v.ownBlock≠some D) (hk:ru w D o) (x0 x1 x2 x3:Value) :
  OutQ ((((w.setCell ⟨D,o,none⟩ x0).setCell ⟨D,o+1,none⟩ x1).setCell ⟨D,o+2,none⟩ x2).setCell ⟨D,o+3,none⟩ x3) Bo v i f K:=by
 obtain⟨es,h1,h2,h3⟩:=h
 have st:=fun (w:World) (o:Nat) (u:Value)=>(⟨rfl,rfl,rfl,by simp[World.setCell],fun k _ hk=>YC w ⟨D,o,none⟩ u k (fun e=>hk (by rw[e]))⟩:w.grownBy (w.setCell ⟨D,o,none⟩ u) (some D))
 exact⟨es,h1,(((h2.kept (st _ _ _) (.inr hn)).kept (st _ _ _) (.inr hn)).kept (st _ _ _) (.inr hn)).kept (st _ _ _) (.inr hn),fun j hj=>(h3 j hj).kind hk x0 x1 x2 x3⟩
theorem OutQ.push {w w':World} {Bo i K:Nat} {v v':Value} {f:Nat→Rat} {es:List E4} (h1:es.length=i) (h2:w.ownsRow Bo 175 4 v i (es.flatMap E4.cells)) (h3:∀ j (hj:j < es.length),ExqAt w w.heap.size es[j].val (f j) K) {b1:Bool} {A1:Option Addr} {l1 c1:Nat} {b2:Bool} {A2:Option Addr} {l2 c2:Nat} (hE:ExqAt w w.heap.size (.agg (zD b1 A1 l1 c1 b2 A2 l2 c2)) (f i) K)
  (hg:w.grownBy w' v.ownBlock) (ho:w'.ownsRow Bo 175 4 v' (i+1) (es.flatMap E4.cells++[.bool b1,.slice A1 l1 c1,.bool b2,.slice A2 l2 c2])):OutQ w' Bo v' (i+1) f K:=by
 refine⟨es++[⟨b1,A1,l1,c1,b2,A2,l2,c2⟩],by rw[yQ,h1];rfl,?_,fun j hj=>?_⟩
 ·rw[List.flatMap_append]
  exact ho
 rw[yQ,h1] at hj
 by_cases e:j<i
 ·rw[List.getElem_append_left (by omega)]
  exact (h3 j (by omega)).kept h2 hg (by decide)
 obtain rfl:j=i:=by simp at hj;omega
 rw[List.getElem_append_right (by omega)]
 simp only[h1,Nat.sub_self,List.getElem_cons_zero]
 exact hE.kept h2 hg (by decide)
def EqsAt (w:World) (v:Value) (l:List Rat) (K:Nat):Prop:=∃ A c,v = .slice A l.length c∧l.length≤c∧c≤maxLen∧∀ (_:0<l.length),∃ g,A=some ⟨g,0,none⟩∧g<w.heap.size∧∀ j (hj:j<l.length),∃ b1 A1 l1 c1 b2 A2 l2 c2,w.cell? ⟨g,j*4,none⟩=some (.bool b1)∧w.cell? ⟨g,j*4+1,none⟩=some (.slice A1 l1 c1)∧w.cell? ⟨g,j*4+2,none⟩=some (.bool b2)∧w.cell? ⟨g,j*4+3,none⟩=some (.slice A2 l2 c2) ∧
  ExqAt w w.heap.size (.agg (zD b1 A1 l1 c1 b2 A2 l2 c2)) l[j] K
theorem OutQ.eqs {w:World} {Bo n K:Nat} {v:Value} {f:Nat→Rat} (h:OutQ w Bo v n f K):EqsAt w v ((List.range n).map f) K:=by
 obtain⟨es,h1,h2,h3⟩:=h
 unfold EqsAt
 simp only[List.length_map,List.length_range]
 rcases h2.2 with⟨rfl,rfl⟩ | ⟨g,cap,cur,rfl,hb,hg,hn,hc,hs,ht⟩
 ·exact⟨none,0,rfl,yA _,yI _,fun h=>by omega⟩
 refine⟨_,cap,rfl,hn,hc,fun _=>⟨g,rfl,(Array.getElem?_eq_some_iff.1 hg).1,fun j hj=>?_⟩⟩
 have k:=fun (m:Nat) (hm:m<4)=>(cell_of_row w g (j*4+m) cur _ (0,0) hg).trans (show cur[j*4+m]? = es[j].cells[m]? by
  rw[← BA es j m (by omega) hm,← ht,List.getElem?_take,if_pos (by omega),Array.getElem?_toList])
 refine⟨_,_,_,_,_,_,_,_,k 0 (by decide),k 1 (by decide),k 2 (by decide),k 3 (by decide),?_⟩
 simp only[List.getElem_map,List.getElem_range]
 exact h3 j (by omega)
theorem EqRow.eqs {w:World} {g n K:Nat} {f:Nat→Rat} (h:EqRow w g n (fun j=>some (f j)) K) (hn:n≤maxLen):EqsAt w (.slice (some ⟨g,0,none⟩) n n) ((List.range n).map f) K:=by
 unfold EqsAt
 simp only[List.length_map,List.length_range]
 refine⟨_,n,rfl,yA _,hn,fun _=>⟨g,rfl,h.lt,fun j hj=>?_⟩⟩
 obtain⟨b1,A1,l1,c1,b2,A2,l2,c2,k0,k1,k2,k3,kE⟩:=h.read hj
 refine⟨b1,A1,l1,c1,b2,A2,l2,c2,k0,k1,k2,k3,?_⟩
 simp only[List.getElem_map,List.getElem_range]
 exact kE _ rfl
theorem EqsAt.grow {w w':World} {v:Value} {l:List Rat} {K:Nat} (h:EqsAt w v l K) (hb:Below w.heap.size w w'):EqsAt w' v l K:=by
 obtain⟨A,c,h1,h2,h3,h4⟩:=h
 refine⟨A,c,h1,h2,h3,fun h0=>?_⟩
 obtain⟨g,e,aw,hc⟩:=h4 h0
 refine⟨g,e,yK aw hb.size,fun j hj=>?_⟩
 obtain⟨b1,A1,l1,c1,b2,A2,l2,c2,k0,k1,k2,k3,kE⟩:=hc j hj
 exact⟨b1,A1,l1,c1,b2,A2,l2,c2,(hb.cell (p:=⟨g,j*4,none⟩) aw).trans k0,(hb.cell (p:=⟨g,j*4+1,none⟩) aw).trans k1,(hb.cell (p:=⟨g,j*4+2,none⟩) aw).trans k2,(hb.cell (p:=⟨g,j*4+3,none⟩) aw).trans k3,kE.grow hb⟩
structure RcQ (w W:World) (b:BeamT) (bx:Array Value) (gm Bo:Nat) (vo:Value) (i:Nat):Prop where
 bm:Blk W w.heap.size 122 bx
 m:EqRow W gm b.sup.length (fun j=>some (Zx b j)) 67530
 o:OutQ W Bo vo i (OL b) 280000
 bel:Below w.heap.size w W
 gl:gm<Bo
 wl:w.heap.size<Bo
 bl:Bo≤W.heap.size
theorem RcQ.grow {w W W':World} {b:BeamT} {bx:Array Value} {gm Bo i:Nat} {vo:Value} (h:RcQ w W b bx gm Bo vo i) (hb:Below W.heap.size W W'):RcQ w W' b bx gm Bo vo i :=
 ⟨h.bm.below hb h.bm.lt,h.m.grow hb,h.o.grow hb,h.bel.trans (hb.mono h.bel.size),h.gl,h.wl,yH h.bl hb.size⟩
theorem RcQ.push {w W W':World} {b:BeamT} {bx:Array Value} {gm Bo i:Nat} {vo v':Value} (h:RcQ w W b bx gm Bo vo i) {es:List E4} (h1:es.length=i) (h2:W.ownsRow Bo 175 4 vo i (es.flatMap E4.cells)) (h3:∀ j (hj:j < es.length),ExqAt W W.heap.size es[j].val (OL b j) 280000) {b1:Bool} {A1:Option Addr} {l1 c1:Nat} {b2:Bool} {A2:Option Addr} {l2 c2:Nat} (hE:ExqAt W W.heap.size (.agg (zD b1 A1 l1 c1 b2 A2 l2 c2)) (OL b i) 280000)
  (hg:W.grownBy W' vo.ownBlock) (ho:W'.ownsRow Bo 175 4 v' (i+1) (es.flatMap E4.cells++[.bool b1,.slice A1 l1 c1,.bool b2,.slice A2 l2 c2])):RcQ w W' b bx gm Bo v' (i+1):=by
 have fB:∀ k,vo.ownBlock=some k→Bo≤k:=fun k e=>(h2.lt k e).1
 refine⟨h.bm.kept hg (h.bm.ne_own h2 (by decide)),?_,OutQ.push h1 h2 h3 hE hg ho,h.bel.grown hg h.bel.size (fun k e=>yH (YJ h.wl) (fB k e)),h.gl,h.wl,yH h.bl hg.size⟩
 obtain⟨ms,m1,m2,m3⟩:=h.m
 exact⟨ms,m1,m2.kept hg (fun e=>by have:=fB _ e.symm;have:=h.gl;omega),fun j hj q hq=>(m3 j hj q hq).kept h2 hg (by decide)⟩
structure RcI (w W:World) (b:BeamT) (bx:Array Value) (gm Bo:Nat) (vo:Value) (i g8:Nat) (q:Rat) (K:Nat):Prop where
 st:RcQ w W b bx gm Bo vo i
 sum:EqBox W g8 q K
 ne:vo.ownBlock≠some g8
 far:Bo≤g8
section
variable {w W W':World} {b:BeamT} {bx:Array Value} {gm Bo i g8:Nat} {vo:Value} {q:Rat} {K:Nat}
theorem RcI.grow (h:RcI w W b bx gm Bo vo i g8 q K) (hb:Below W.heap.size W W'):RcI w W' b bx gm Bo vo i g8 q K :=
 ⟨h.st.grow hb,h.sum.grow hb,h.ne,h.far⟩
theorem RcI.more (h:RcI w W b bx gm Bo vo i g8 q K) {K':Nat} (hK:K≤K'):RcI w W b bx gm Bo vo i g8 q K':=⟨h.st,h.sum.more hK,h.ne,h.far⟩
theorem RcI.is (h:RcI w W b bx gm Bo vo i g8 q K) {q':Rat} (e:q=q'):RcI w W b bx gm Bo vo i g8 q' K:=by
 subst e
 exact h
variable {b1:Bool} {A1:Option Addr} {l1 c1:Nat} {b2:Bool} {A2:Option Addr} {l2 c2:Nat} {q':Rat} {K':Nat}
theorem RcI.put (h:RcI w W b bx gm Bo vo i g8 q K) (hE:ExqAt W W.heap.size (.agg (zD b1 A1 l1 c1 b2 A2 l2 c2)) q' K') :
  RcI w ((((W.setCell ⟨g8,0,none⟩ (.bool b1)).setCell ⟨g8,1,none⟩ (.slice A1 l1 c1)).setCell ⟨g8,2,none⟩ (.bool b2)).setCell ⟨g8,3,none⟩ (.slice A2 l2 c2)) b bx gm Bo vo i g8 q' K':=by
 have h1:=h.far
 have h2:=h.st.gl
 have h3:=h.st.wl
 have hk:=h.sum.kind
 exact⟨⟨h.st.bm.far4o (by omega) 0 _ _ _ _,h.st.m.far4 (by omega) hk _ _ _ _,h.st.o.far4 h.ne hk _ _ _ _,dN h.st.bel (by omega) 0 _ _ _ _,h2,h3,by have:=h.st.bl;simpa[World.setCell] using this⟩,h.sum.put hE,h.ne,h1⟩
theorem RcI.start (h:RcQ w W b bx gm Bo vo i) (hE:ExqAt W W.heap.size (.agg (zD b1 A1 l1 c1 b2 A2 l2 c2)) q K) :
  RcI w (W.alloc (.cells (zD b1 A1 l1 c1 b2 A2 l2 c2) 175)) b bx gm Bo vo i W.heap.size q K:=by
 refine⟨h.grow ((yB _ _).alloc (yA _) _),EqBox.new hE,fun e=>?_,h.bl⟩
 obtain⟨es,-,h2,-⟩:=h.o
 exact absurd (h2.lt _ e).2 (Nat.lt_irrefl _)
end
def qqA (b:BeamT) (w:World) (e:Ending) (w':World):Prop:=Below w.heap.size w w'∧∃ v,e = .returned v∧EqsAt w' v (ef b) 280000
def ug (b:BeamT) (i s:Nat):Rat:=if s=0 then mH b i else if s=1 then nt b i else OL b i
theorem Gl (v:Value) (b:BeamT) (w:World) (hv:BeamAt w w.heap.size v b) (hb:BeamOk b) (ht:cJ b=true) (hT:∀ (u:Value) (w1:World),BeamAt w1 w1.heap.size u b→Calls Tryz.prog 204 #[u] w1 (TurnedPost b w1)) :
  Calls Tryz.prog 87 #[v] w (qqA b w):=by
 have Mz:=hv
 obtain⟨As,cs,Al,cl,rfl,hS,hL⟩:=hv
 obtain⟨_,_,e,_,mR,uD⟩:=hS.open_
 injection e with e1 _ e2
 subst e1 e2
 obtain⟨_,_,e,_,dW,oN⟩:=hL.open_
 injection e with e1 _ e2
 subst e1 e2
 have h1:=hb.sup1
 have h4:=hb.sup 0 h1.1
 unfold maxLen at mR dW
 obtain⟨bs,os,rfl,ip,D6⟩:=uD 0 h1.1
 have lq:Y0 (∀ j,j<b.sup.length→w.cell? ⟨bs,os+j,none⟩=some (.int .i64 (ak b j))):=fun j hj=>by
  have h:=D6 j hj
  unfold ak
  rw[yN,yM hj]
  exact h
 have vn:=zh oN
 have Hb:=zh hb
 have Yj:=zh ht
 have HT:=zh hT
 obtain⟨h51,h52⟩:=hb.len
 obtain⟨Zp,h32⟩:=hb.even
 have h2:=hb.loads1
 have bw:=zh ((yB _ w).alloc (yA _) (.cells (zC b (some ⟨bs,os,none⟩) cs Al cl) 122))
 have HV:=zh (Mz.grow bw.o)
 have bZ:=zh (Blk.new w 122 (zC b (some ⟨bs,os,none⟩) cs Al cl))
 have s0:(0:Int)<(b.sup.length:Int):=by omega
 obtain⟨s3,s1⟩:=h1
 clear uD oN hb hS hL hT Mz h4 D6 ht
 go_enter Tryz.func87,Tryz.ntmps87
 go_upto_region 1 with fail
 generalize w.alloc (.cells (zC b (some ⟨bs,os,none⟩) cs Al cl) 122)=W1 at *
 obtain⟨y0,y1,y2,y3,y4⟩:=bZ.o.c5
 go_wp2_with fail
 refine (OC _ b W1 HV.o Hb.o Yj.o HT.o).mono ?_
 rintro e w3 ⟨cO,gm,rfl,Bf⟩
 have HQ:Y0 (RcQ w w3 b (zC b (some ⟨bs,os,none⟩) cs Al cl) gm w3.heap.size (.slice none 0 0) 0):=⟨bZ.o.below cO bZ.o.lt,Bf,OutQ.nil _ _ _ _,bw.o.trans (cO.mono bw.o.size),Bf.lt,yK bZ.o.lt cO.size,yA _⟩
 clear y0 y1 y2 y3 y4 cO Bf bZ bw HV
 generalize w3.heap.size=Bo at *
 go_wp2_with fail
 go_loopg [6,7] b.sup.length (fun gk vo ix wr=>∃ (i:Nat) (Ao:Option Addr) (co:Nat),gk+i=b.sup.length∧ix = .int .i64 i∧vo = .slice Ao i co∧Y0 (RcQ w wr b (zC b (some ⟨bs,os,none⟩) cs Al cl) gm Bo (.slice Ao i co) i))
 case atStart=>exact⟨0,none,0,rfl,rfl,rfl,HQ⟩
 clear HQ
 obtain⟨i,Ao,co,qi,rfl,rfl,HQ⟩:=hrel
 have i0:(0:Int)≤(i:Int):=yE _
 by_cases rk:i<b.sup.length
 ·skip
  have i1:(i:Int)<(b.sup.length:Int):=by omega
  have Hgk:=zh qi
  clear qi
  go_wp2_with fail
  refine (wh wr).mono ?_
  rintro e w2 ⟨v2,rfl,bE,ET⟩
  obtain⟨Km,Ko,Ki,Kk,Kl,Kn,Kh,Kj,_,_,rfl,-⟩:=bR ET
  have HI:=zh (RcI.start (HQ.o.grow bE) ET)
  have HH:Y0 (aD b (qS b i) 0 0=0):=rfl
  rw[← HH.o] at HI
  clear ET bE HQ HH
  go_upto_region 10 with fail
  generalize w2.alloc (.cells (zD Km Ko Ki Kk Kl Kn Kh Kj) 175)=W2 at *
  generalize w2.heap.size=g8 at *
  have QU:Y0 (RcI w W2 b (zC b (some ⟨bs,os,none⟩) cs Al cl) gm Bo (.slice Ao i co) i g8 (aD b (qS b i) 0 0) (30+31*0)):=HI
  clear HI
  go_loopg [9] b.loads.length (fun hk kx wr=>∃ k:Nat,hk+k=b.loads.length∧kx = .int .i64 k∧Y0 (RcI w wr b (zC b (some ⟨bs,os,none⟩) cs Al cl) gm Bo (.slice Ao i co) i g8 (aD b (qS b i) 0 k) (30+31*k)))
  case atStart=>exact⟨0,rfl,rfl,QU⟩
  clear QU
  obtain⟨k,hgh,rfl,HI⟩:=hrel
  have k0:(0:Int)≤(k:Int):=yE _
  by_cases aB:k<b.loads.length
  ·skip
   have k1:(k:Int)<(b.loads.length:Int):=by omega
   have Hgh:=zh hgh
   clear hgh
   obtain⟨bl,ol,rfl,aw,dW⟩:=vn.o k aB
   obtain⟨cW,cT⟩:=dW k aB
   have Hx2:Y0 (w.cell? ⟨bl,ol+k*2+1,none⟩=some (.int .i64 b.loads[k].wt)):=cT
   have cW:=(HI.o.st.bel.cell (p:=⟨bl,ol+k*2,none⟩) aw).trans cW
   have cT:=(HI.o.st.bel.cell (p:=⟨bl,ol+k*2+1,none⟩) aw).trans cT
   have z0:=(HI.o.st.bel.cell (p:=⟨bs,os+0,none⟩) ip).trans (lq.o 0 (by omega))
   have z1:=(HI.o.st.bel.cell (p:=⟨bs,os+i,none⟩) ip).trans (lq.o i rk)
   have z2:=(HI.o.st.bel.cell (p:=⟨bs,os+(b.sup.length-1),none⟩) ip).trans (lq.o (b.sup.length-1) (by omega))
   rw[Nat.add_zero] at z0
   obtain⟨p1,p2,p3,p4⟩:=Hb.o.loads _ (yV aB)
   have Yp:=zh (fun y=>AJ (b:=b) (f:=qS b i) (s:=0) (y:=y) aB)
   have mw:=zh (tq (b:=b) (f:=qS b i) (s:=0) aB)
   have Om:=zh (Xu b i b.loads[k])
   have On:=zh (Xv b i b.loads[k])
   have Dw:i+1=b.sup.length→ak b (b.sup.length-1)=ak b i:=fun h=>by rw[← h];rfl
   have pL:i=0→ak b 0=ak b i:=fun h=>by rw[h]
   clear dW
   generalize b.loads[k]=x at *
   obtain⟨pos,wt⟩:=x
   simp only at cW cT p1 p2 p3 p4 Om On Hx2
   generalize hsf:ak b 0=sf at *
   generalize hsq:ak b i=sq at *
   generalize hsl:ak b (b.sup.length-1)=sl at *
   have j0:(0:Int)≤(b.sup.length:Int)-1:=by omega
   have j1:(b.sup.length:Int)-1<(b.sup.length:Int):=by omega
   have j2:((b.sup.length:Int)-1).toNat=b.sup.length-1:=by omega
   have j5:IntKind.i64.wrap ((b.sup.length:Int)-1)=(b.sup.length:Int)-1:=yF _ (by omega)
   have c3:=HI.o.st.bm.cell 3
   simp only[aP,aQ,aO] at c3
   go_upto_region 13 with fail
   go_cut [75] from 44 to 75 (fun s wx=>s = .bool (decide (pos=sq∨(i=0∧pos<sf)∨(i+1=b.sup.length∧sq<pos)))∧wx=wr)
   case first=>
    by_cases t1:pos=sq
    ·have e1:(pos==sq)=true:=beq_iff_eq.2 t1
     have e9:decide (pos=sq∨(i=0∧pos<sf)∨(i+1=b.sup.length∧sq<pos))=true:=yD (.inl t1)
     have E9:=zh e9
     clear e9 t1
     go_wp2_with fail
     go_meet
     exact⟨congrArg Value.bool E9.o.symm,rfl⟩
    have e1:(pos==sq)=false:=beq_eq_false_iff_ne.2 t1
    by_cases t2:i=0
    ·have e2:((i:Int)==0)=true:=beq_iff_eq.2 (by omega)
     by_cases t3:pos<sf
     ·have e3:decide (pos<sf)=true:=yD t3
      have E9:Y0 (decide (pos=sq∨(i=0∧pos<sf)∨(i+1=b.sup.length∧sq<pos))=true):=yD (.inr (.inl ⟨t2,t3⟩))
      clear t1 t2 t3
      go_wp2_with fail
      go_meet
      exact⟨congrArg Value.bool E9.o.symm,rfl⟩
     have e3:decide (pos<sf)=false:=yC t3
     by_cases t4:i+1=b.sup.length
     ·have e4:((i:Int)==(b.sup.length:Int)-1)=true:=beq_iff_eq.2 (by omega)
      have t5:sl<pos:=by have:=Dw t4;have:=pL t2;omega
      have e5:decide (sl<pos)=true:=yD t5
      have E9:Y0 (decide (pos=sq∨(i=0∧pos<sf)∨(i+1=b.sup.length∧sq<pos))=true):=yD (.inr (.inr ⟨t4,by have:=Dw t4;omega⟩))
      clear t1 t2 t3 t4 t5 Dw pL
      go_wp2_with fail
      go_meet
      exact⟨congrArg Value.bool E9.o.symm,rfl⟩
     have e4:((i:Int)==(b.sup.length:Int)-1)=false:=beq_eq_false_iff_ne.2 (by omega)
     have E9:Y0 (decide (pos=sq∨(i=0∧pos<sf)∨(i+1=b.sup.length∧sq<pos))=false):=yC (fun h=>by rcases h with h | h | h <;> omega)
     clear t1 t2 t3 t4 Dw pL
     go_wp2_with fail
     go_meet
     exact⟨congrArg Value.bool E9.o.symm,rfl⟩
    have e2:((i:Int)==0)=false:=beq_eq_false_iff_ne.2 (by omega)
    by_cases t4:i+1=b.sup.length
    ·have e4:((i:Int)==(b.sup.length:Int)-1)=true:=beq_iff_eq.2 (by omega)
     by_cases t5:sl<pos
     ·have e5:decide (sl<pos)=true:=yD t5
      have E9:Y0 (decide (pos=sq∨(i=0∧pos<sf)∨(i+1=b.sup.length∧sq<pos))=true):=yD (.inr (.inr ⟨t4,by have:=Dw t4;omega⟩))
      clear t1 t2 t4 t5 Dw pL
      go_wp2_with fail
      go_meet
      exact⟨congrArg Value.bool E9.o.symm,rfl⟩
     have e5:decide (sl<pos)=false:=yC t5
     have E9:Y0 (decide (pos=sq∨(i=0∧pos<sf)∨(i+1=b.sup.length∧sq<pos))=false):=yC (fun h=>by have:=Dw t4;rcases h with h | h | h <;> omega)
     clear t1 t2 t4 t5 Dw pL
     go_wp2_with fail
     go_meet
     exact⟨congrArg Value.bool E9.o.symm,rfl⟩
    have e4:((i:Int)==(b.sup.length:Int)-1)=false:=beq_eq_false_iff_ne.2 (by omega)
    have E9:Y0 (decide (pos=sq∨(i=0∧pos<sf)∨(i+1=b.sup.length∧sq<pos))=false):=yC (fun h=>by rcases h with h | h | h <;> omega)
    clear t1 t2 t4 Dw pL
    go_wp2_with fail
    go_meet
    exact⟨congrArg Value.bool E9.o.symm,rfl⟩
   obtain⟨rfl,rfl⟩:=hcut
   clear z0 z1 z2 Dw pL c3
   by_cases hE:pos=sq∨(i=0∧pos<sf)∨(i+1=b.sup.length∧sq<pos)
   ·rw[yD hE]
    have ia:=zh (Yp.o _ (Om.o hE))
    have mz:wt.natAbs≤1152921504606846976:=by omega
    clear hE Yp mw Om On
    obtain⟨gM,gQ,gH,gK,gL,gP,gG,gJ,hB,hE⟩:=HI.o.sum
    obtain⟨y0,y1,y2,y3⟩:=hB.c4
    have HE:=zh hE
    clear hB hE
    have c3:=HI.o.st.bm.cell 3
    simp only[aP,aQ,aO] at c3
    go_upto_region 14 with fail
    have rj:=YL y0
    have ri:=YL y1
    have rh:=YL y2
    have rf:=YL y3
    have vV:=YL c3
    have Rj:=YL cT
    clear y0 y1 y2 y3 c3 cT
    refine ag 10 (fun jx=>if jx=7 then some (gI [wt]) else if jx=8 then some (jb (Zu 1 [wt]) (30)) else if jx=9 then some (jb (aD b (qS b i) 0 k+Zu 1 [wt]) (30+31*(k+1))) else none) (by kernel_rfl) (by kernel_rfl) ?_
    simp only[aU,aT,aW,aX]
    refine ae 7 (by kernel_rfl) (by rfl) (by decide) ?_
    simp only[aU,aT,aW,aX]
    repeat (go_big_quiet_step (fail))
    refine YH ?_
    refine br rfl rfl (fun w1 ao _=>en (T:=3) (l:=[wt]) (yU rfl) (by go_simp)) ?_
    rintro _ ⟨g83,rfl⟩
    simp only[Act.put,aJ,aI,aH]
    refine af rfl rfl ?_ ?_
    ·intro w1 ao hk
     have h83:bO w1 w1.heap.size (.slice (some ⟨g83,0,none⟩) 1 1) [wt]:=hk 83 (yG (by kernel_rfl))
     have hC:=eE 1 _ [wt] w1 h83 (yU rfl) (CL mz) (by decide) (by decide)
     exact⟨134,#[.slice (some ⟨g83,0,none⟩) 1 1,.int .i64 1],by go_simp,Zg hC⟩
    rintro _ ⟨qwj,qwl,qwf,qwh,qwi,qwk,qwe,qwg,rfl⟩
    simp only[Act.put,aJ,aI,aH]
    refine af rfl rfl ?_ ?_
    ·intro w1 ao hk
     have h84:ExqAt w1 w1.heap.size (.agg (zD qwj qwl qwf qwh qwi qwk qwe qwg)) (Zu 1 [wt]) (30):=hk 84 (yG (by kernel_rfl))
     have hC:=ft _ _ _ _ (30+31*k) 30 w1 (HE.o.grow ao) h84 (by omega)
     exact⟨133,#[.agg (zD gM gQ gH gK gL gP gG gJ),.agg (zD qwj qwl qwf qwh qwi qwk qwe qwg)],by go_simp,Zg hC⟩
    rintro _ ⟨wG,wI,wC,wE,wF,wH,wB,wD,rfl⟩
    simp only[Act.put,aJ,aI,aH]
    refine Zc ?_
    intro w8 aM hF
    have jB:ExqAt w8 w8.heap.size (.agg (zD wG wI wC wE wF wH wB wD)) (aD b (qS b i) 0 k+Zu 1 [wt]) (30+31*(k+1)):=hF 85
    have HG:=HI.o.grow aM
    obtain⟨_,_,_,_,_,_,_,_,df,-⟩:=HG.sum
    have lj:=zh (HG.put jB)
    obtain⟨q0,q1,q2,q3⟩:=df.c4
    have vh:=df.frozen (0)
    have vg:=df.frozen (1)
    have vf:=df.frozen (2)
    have ve:=df.frozen (3)
    clear hF jB df HG aM HE HI rj ri rh rf vV Rj
    rw[← ia.o] at lj
    go_wp2_with fail
    clear q0 q1 q2 q3 vh vg vf ve ia
    go_roundg (b.loads.length-(k+1))
    case rel=>exact⟨k+1,by omega,by go_num,lj⟩
    have:=Hgh.o;omega
   rw[yC hE]
   have ia:=zh (mw.o (On.o hE))
   have lj:Y0 (RcI w wc b (zC b (some ⟨bs,os,none⟩) cs (some ⟨bl,ol,none⟩) cl) gm Bo (.slice Ao i co) i g8 (aD b (qS b i) 0 (k+1)) (30+31*(k+1))):=by
    rw[ia.o]
    exact HI.o.more (by omega)
   clear hE Yp mw Om On HI ia
   go_wp2_with fail
   go_roundg (b.loads.length-(k+1))
   case rel=>exact⟨k+1,by omega,by go_num,lj⟩
   have:=Hgh.o;omega
  skip
  obtain rfl:k=b.loads.length:=by omega
  have C9:Y0 (RcI w wr b (zC b (some ⟨bs,os,none⟩) cs Al cl) gm Bo (.slice Ao i co) i g8 (RG b i) (1270)):=HI.o.more (by omega)
  have c3:=C9.o.st.bm.cell 3
  simp only[aP,aQ,aO] at c3
  clear HI
  go_upto_if 87 with fail
  clear c3
  go_cut [8] from 87 to 96 (fun s8 wx=>s8 = .pointer (some ⟨g8,0,none⟩)∧Y0 (RcI w wx b (zC b (some ⟨bs,os,none⟩) cs Al cl) gm Bo (.slice Ao i co) i g8 (JW b i) (1301)))
  case first=>
   by_cases t0:i=0
   ·have e0:((i:Int)==0)=true:=beq_iff_eq.2 (by omega)
    have QQ:Y0 (RG b i+Zu 1000 [b.even,ak b 0]=JW b i):=by unfold Y0 JW;rw[if_pos t0]
    have z0:=(C9.o.st.bel.cell (p:=⟨bs,os+0,none⟩) ip).trans (lq.o 0 (by omega))
    rw[Nat.add_zero] at z0
    have t4:=Hb.o.sup 0 (by omega)
    clear t0
    generalize ak b 0=sf at *
    have mz:b.even.natAbs≤1152921504606846976:=by omega
    have jU:sf.natAbs≤1152921504606846976:=by omega
    obtain⟨gM,gQ,gH,gK,gL,gP,gG,gJ,hB,hE⟩:=C9.o.sum
    obtain⟨y0,y1,y2,y3⟩:=hB.c4
    have HE:=zh hE
    clear hB hE
    have c4:=C9.o.st.bm.cell 4
    simp only[aP,aQ,aO] at c4
    go_upto_region 16 with fail
    have rj:=YL y0
    have ri:=YL y1
    have rh:=YL y2
    have rf:=YL y3
    have uc4:=YL c4
    have MN:=YL z0
    clear y0 y1 y2 y3 c4 z0
    refine ag 9 (fun jx=>if jx=6 then some (gI [b.even,sf]) else if jx=7 then some (jb (Zu 1000 [b.even,sf]) (30)) else if jx=8 then some (jb (RG b i+Zu 1000 [b.even,sf]) (1301)) else none) (by kernel_rfl) (by kernel_rfl) ?_
    simp only[aU,aT,aW,aX]
    refine ae 6 (by kernel_rfl) (by rfl) (by decide) ?_
    simp only[aU,aT,aW,aX]
    repeat (go_big_quiet_step (fail))
    refine YH ?_
    refine br rfl rfl (fun w1 ao _=>en (T:=3) (l:=[b.even,sf]) (yU rfl) (by go_simp)) ?_
    rintro _ ⟨g94,rfl⟩
    simp only[Act.put,aJ,aI,aH]
    refine af rfl rfl ?_ ?_
    ·intro w1 ao hk
     have h94:bO w1 w1.heap.size (.slice (some ⟨g94,0,none⟩) 2 2) [b.even,sf]:=hk 94 (yG (by kernel_rfl))
     have hC:=eE 1000 _ [b.even,sf] w1 h94 (yU rfl) (tZ mz jU) (by decide) (by decide)
     exact⟨134,#[.slice (some ⟨g94,0,none⟩) 2 2,.int .i64 1000],by go_simp,Zg hC⟩
    rintro _ ⟨qq3,qq5,qqZ,qq1,qq2,qq4,qqY,qq0,rfl⟩
    simp only[Act.put,aJ,aI,aH]
    refine af rfl rfl ?_ ?_
    ·intro w1 ao hk
     have h95:ExqAt w1 w1.heap.size (.agg (zD qq3 qq5 qqZ qq1 qq2 qq4 qqY qq0)) (Zu 1000 [b.even,sf]) (30):=hk 95 (yG (by kernel_rfl))
     have hC:=ft _ _ _ _ (1270) 30 w1 (HE.o.grow ao) h95 (by omega)
     exact⟨133,#[.agg (zD gM gQ gH gK gL gP gG gJ),.agg (zD qq3 qq5 qqZ qq1 qq2 qq4 qqY qq0)],by go_simp,Zg hC⟩
    rintro _ ⟨qzT,qzV,qzP,qzR,qzS,qzU,qzO,qzQ,rfl⟩
    simp only[Act.put,aJ,aI,aH]
    refine Zc ?_
    intro w8 aM hF
    have jB:ExqAt w8 w8.heap.size (.agg (zD qzT qzV qzP qzR qzS qzU qzO qzQ)) (RG b i+Zu 1000 [b.even,sf]) (1301):=hF 96
    have HG:=C9.o.grow aM
    obtain⟨_,_,_,_,_,_,_,_,df,-⟩:=HG.sum
    have Ol:=zh (HG.put jB)
    obtain⟨q0,q1,q2,q3⟩:=df.c4
    have vh:=df.frozen (0)
    have vg:=df.frozen (1)
    have vf:=df.frozen (2)
    have ve:=df.frozen (3)
    clear hF jB df HG aM HE C9 rj ri rh rf uc4 MN
    rw[QQ.o] at Ol
    go_wp2_with fail
    go_meet
    exact⟨rfl,Ol⟩
   have e0:((i:Int)==0)=false:=beq_eq_false_iff_ne.2 (by omega)
   have Ol:Y0 (RcI w wr b (zC b (some ⟨bs,os,none⟩) cs Al cl) gm Bo (.slice Ao i co) i g8 (JW b i) (1301)):=by
    have e:RG b i=JW b i:=by unfold JW;rw[if_neg t0]
    rw[← e]
    exact C9.o.more (by decide)
   clear C9 t0
   go_wp2_with fail
   go_meet
   exact⟨rfl,Ol⟩
  obtain⟨rfl,Ol⟩:=hcut
  clear C9
  have j0:(0:Int)≤(b.sup.length:Int)-1:=by omega
  have j1:(b.sup.length:Int)-1<(b.sup.length:Int):=by omega
  have j2:((b.sup.length:Int)-1).toNat=b.sup.length-1:=by omega
  have j5:IntKind.i64.wrap ((b.sup.length:Int)-1)=(b.sup.length:Int)-1:=yF _ (by omega)
  go_upto_if 100 with fail
  go_cut [8] from 100 to 114 (fun s8 wx=>s8 = .pointer (some ⟨g8,0,none⟩)∧Y0 (RcI w wx b (zC b (some ⟨bs,os,none⟩) cs Al cl) gm Bo (.slice Ao i co) i g8 (mH b i) (1332)))
  case first=>
   by_cases t0:i+1=b.sup.length
   ·have e0:((i:Int)==(b.sup.length:Int)-1)=true:=beq_iff_eq.2 (by omega)
    have QQ:Y0 (JW b i+Zu 1000 [b.even,b.len-ak b i]=mH b i):=by unfold Y0 mH;rw[if_pos t0]
    have z0:=(Ol.o.st.bel.cell (p:=⟨bs,os+(b.sup.length-1),none⟩) ip).trans (lq.o (b.sup.length-1) (by omega))
    have t4:=Hb.o.sup i rk
    have ei:b.sup.length-1=i:=by omega
    rw[show ak b (b.sup.length-1)=ak b i by rw[ei]] at z0
    clear t0 ei
    generalize ak b i=sf at *
    have mz:b.even.natAbs≤1152921504606846976:=by omega
    have jU:(b.len-sf).natAbs≤1152921504606846976:=by omega
    have v7:IntKind.i64.wrap (b.len-sf)=b.len-sf:=yF _ (by omega)
    obtain⟨gM,gQ,gH,gK,gL,gP,gG,gJ,hB,hE⟩:=Ol.o.sum
    obtain⟨y0,y1,y2,y3⟩:=hB.c4
    have HE:=zh hE
    clear hB hE
    have c1:=Ol.o.st.bm.cell 1
    have c4:=Ol.o.st.bm.cell 4
    simp only[aP,aQ,aO] at c1 c4
    go_upto_region 18 with fail
    have rj:=YL y0
    have ri:=YL y1
    have rh:=YL y2
    have rf:=YL y3
    have Eh:=YL c1
    have uc4:=YL c4
    have MN:=YL z0
    clear y0 y1 y2 y3 c1 c4 z0
    refine ag 14 (fun jx=>if jx=11 then some (gI [b.even,b.len-sf]) else if jx=12 then some (jb (Zu 1000 [b.even,b.len-sf]) (30)) else if jx=13 then some (jb (JW b i+Zu 1000 [b.even,b.len-sf]) (1332)) else none) (by kernel_rfl) (by kernel_rfl) ?_
    simp only[aU,aT,aW,aX]
    refine ae 11 (by kernel_rfl) (by rfl) (by decide) ?_
    simp only[aU,aT,aW,aX]
    repeat (go_big_quiet_step (fail))
    refine YH ?_
    refine br rfl rfl (fun w1 ao _=>en (T:=3) (l:=[b.even,b.len-sf]) (yU rfl) (by go_simp)) ?_
    rintro _ ⟨qjV,rfl⟩
    simp only[Act.put,aJ,aI,aH]
    refine af rfl rfl ?_ ?_
    ·intro w1 ao hk
     have vqj:bO w1 w1.heap.size (.slice (some ⟨qjV,0,none⟩) 2 2) [b.even,b.len-sf]:=hk 112 (yG (by kernel_rfl))
     have hC:=eE 1000 _ [b.even,b.len-sf] w1 vqj (yU rfl) (tZ mz jU) (by decide) (by decide)
     exact⟨134,#[.slice (some ⟨qjV,0,none⟩) 2 2,.int .i64 1000],by go_simp,Zg hC⟩
    rintro _ ⟨Va,Vd,UW,UY,UZ,Vb,UV,UX,rfl⟩
    simp only[Act.put,aJ,aI,aH]
    refine af rfl rfl ?_ ?_
    ·intro w1 ao hk
     have qvP:ExqAt w1 w1.heap.size (.agg (zD Va Vd UW UY UZ Vb UV UX)) (Zu 1000 [b.even,b.len-sf]) (30):=hk 113 (yG (by kernel_rfl))
     have hC:=ft _ _ _ _ (1301) 30 w1 (HE.o.grow ao) qvP (by omega)
     exact⟨133,#[.agg (zD gM gQ gH gK gL gP gG gJ),.agg (zD Va Vd UW UY UZ Vb UV UX)],by go_simp,Zg hC⟩
    rintro _ ⟨EB,ED,E6,E8,EA,EC,E5,E7,rfl⟩
    simp only[Act.put,aJ,aI,aH]
    refine Zc ?_
    intro w8 aM hF
    have jB:ExqAt w8 w8.heap.size (.agg (zD EB ED E6 E8 EA EC E5 E7)) (JW b i+Zu 1000 [b.even,b.len-sf]) (1332):=hF 114
    have HG:=Ol.o.grow aM
    obtain⟨_,_,_,_,_,_,_,_,df,-⟩:=HG.sum
    have HI5:=zh (HG.put jB)
    obtain⟨q0,q1,q2,q3⟩:=df.c4
    have vh:=df.frozen (0)
    have vg:=df.frozen (1)
    have vf:=df.frozen (2)
    have ve:=df.frozen (3)
    clear hF jB df HG aM HE Ol rj ri rh rf Eh uc4 MN
    rw[QQ.o] at HI5
    go_wp2_with fail
    go_meet
    exact⟨rfl,HI5⟩
   have e0:((i:Int)==(b.sup.length:Int)-1)=false:=beq_eq_false_iff_ne.2 (by omega)
   have HI5:Y0 (RcI w wc b (zC b (some ⟨bs,os,none⟩) cs Al cl) gm Bo (.slice Ao i co) i g8 (mH b i) (1332)):=by
    have e:JW b i=mH b i:=by unfold mH;rw[if_neg t0]
    rw[← e]
    exact Ol.o.more (by decide)
   clear Ol t0
   go_wp2_with fail
   go_meet
   exact⟨rfl,HI5⟩
  obtain⟨rfl,HI5⟩:=hcut
  clear Ol j0 j1 j2 j5
  have qm:Y0 (RcI w wc b (zC b (some ⟨bs,os,none⟩) cs Al cl) gm Bo (.slice Ao i co) i g8 (ug b i 0) (1332+136363*0)):=HI5
  clear HI5
  go_wp2_with fail
  go_loopw [11] (fun kx wr=>∃ s:Nat,s≤2∧kx = .int .i64 s∧Y0 (RcI w wr b (zC b (some ⟨bs,os,none⟩) cs Al cl) gm Bo (.slice Ao i co) i g8 (ug b i s) (1332+136363*s))) (fun kx _=>2-(intOf kx).toNat)
  case atStart=>exact⟨0,by decide,rfl,qm⟩
  clear qm
  obtain⟨s,hs,rfl,HI⟩:=hrel
  rcases s with _ | _ | s
  ·by_cases il:0<i
   ·as_aux_lemma=>
    have es:((0:Nat):Int)=0:=rfl
    rw[es]
    clear es hs
    have QU:Y0 (RcI w wr b (zC b (some ⟨bs,os,none⟩) cs Al cl) gm Bo (.slice Ao i co) i g8 (mH b i) (1332)):=HI
    clear HI
    have HSo:=zh il
    obtain⟨p,hp⟩:∃ p,p+1=i:=⟨i-1,by omega⟩
    have v1:IntKind.i64.wrap ((i:Int)-1)=(p:Int):=(yF _ (by omega)).trans (by omega)
    have t1:=Hb.o.inc p (by omega)
    rw[hp] at t1
    have Cj:Y0 (Fl b (ak b p) (ak b i) false (Zx b i) (Zx b p) (mH b i)=nt b i):=by unfold Y0 nt;rw[if_pos il,show i-1=p by omega]
    have hpn:p<b.sup.length:=by omega
    have z1:=(QU.o.st.bel.cell (p:=⟨bs,os+i,none⟩) ip).trans (lq.o i rk)
    have zk:=(QU.o.st.bel.cell (p:=⟨bs,os+p,none⟩) ip).trans (lq.o p hpn)
    have Hzk:=zh (lq.o p hpn)
    have t2:=Hb.o.sup i rk
    have t3:=Hb.o.sup p hpn
    have p0:(0:Int)≤(p:Int):=yE _
    have pn:(p:Int)<(b.sup.length:Int):=by omega
    have d1:decide ((p:Int)<0)=false:=yC (by omega)
    have d2:decide ((b.sup.length:Int)≤(p:Int))=false:=yC (by omega)
    have d3:decide (b.sup.length≤p)=false:=yC (by omega)
    have Hp:=zh hp
    generalize ak b i=si at *
    generalize ak b p=sk at *
    obtain⟨t21,t22⟩:=t2
    obtain⟨t31,t32⟩:=t3
    obtain⟨l,hl⟩:∃ l,si-sk=l:=⟨_,rfl⟩
    have l1:1≤l:=by omega
    have l2:l≤1048576:=by omega
    have v2:IntKind.i64.wrap (si-sk)=l:=(yF _ (by omega)).trans hl
    have Hl:=zh hl
    clear hp il hl
    go_upto_region 26 with fail
    go_quiet (fail)
    go_upto_region 28 with fail
    generalize NB:wr.drewN nq=W5 at *
    have HI1:Y0 (RcI w W5 b (zC b (some ⟨bs,os,none⟩) cs Al cl) gm Bo (.slice Ao i co) i g8 (mH b i) (1332)):=by rw[← NB];exact QU.o.grow (Zf (yB _ _) _)
    clear NB QU z1 zk d1 d2 d3
    have mz:b.even.natAbs≤1152921504606846976:=by omega
    have jU:l.natAbs≤1152921504606846976:=by omega
    obtain⟨gM,gQ,gH,gK,gL,gP,gG,gJ,hB,hE⟩:=HI1.o.sum
    obtain⟨y0,y1,y2,y3⟩:=hB.c4
    have HE:=zh hE
    clear hB hE
    have c4:=HI1.o.st.bm.cell 4
    simp only[aP,aQ,aO] at c4
    have rj:=YL y0
    have ri:=YL y1
    have rh:=YL y2
    have rf:=YL y3
    have uc4:=YL c4
    clear y0 y1 y2 y3 c4
    refine ag 7 (fun jx=>if jx=4 then some (gI [b.even,l]) else if jx=5 then some (jb (Zu 2000 [b.even,l]) (30)) else if jx=6 then some (jb (mH b i+Zu 2000 [b.even,l]) (1363)) else none) (by kernel_rfl) (by kernel_rfl) ?_
    simp only[aU,aT,aW,aX]
    refine ae 4 (by kernel_rfl) (by rfl) (by decide) ?_
    simp only[aU,aT,aW,aX]
    repeat (go_big_quiet_step (fail))
    refine YH ?_
    refine br rfl rfl (fun w1 ao _=>en (T:=3) (l:=[b.even,l]) (yU rfl) (by go_simp)) ?_
    rintro _ ⟨Xg,rfl⟩
    simp only[Act.put,aJ,aI,aH]
    refine af rfl rfl ?_ ?_
    ·intro w1 ao hk
     have EV:bO w1 w1.heap.size (.slice (some ⟨Xg,0,none⟩) 2 2) [b.even,l]:=hk 157 (yG (by kernel_rfl))
     have hC:=eE 2000 _ [b.even,l] w1 EV (yU rfl) (tZ mz jU) (by decide) (by decide)
     exact⟨134,#[.slice (some ⟨Xg,0,none⟩) 2 2,.int .i64 2000],by go_simp,Zg hC⟩
    rintro _ ⟨xQ,xS,xM,xO,xP,xR,xL,xN,rfl⟩
    simp only[Act.put,aJ,aI,aH]
    refine af rfl rfl ?_ ?_
    ·intro w1 ao hk
     have qvE:ExqAt w1 w1.heap.size (.agg (zD xQ xS xM xO xP xR xL xN)) (Zu 2000 [b.even,l]) (30):=hk 158 (yG (by kernel_rfl))
     have hC:=ft _ _ _ _ (1332) 30 w1 (HE.o.grow ao) qvE (by omega)
     exact⟨133,#[.agg (zD gM gQ gH gK gL gP gG gJ),.agg (zD xQ xS xM xO xP xR xL xN)],by go_simp,Zg hC⟩
    rintro _ ⟨xI,xK,xE,xG,xH,xJ,xD,xF,rfl⟩
    simp only[Act.put,aJ,aI,aH]
    refine Zc ?_
    intro w8 aM hF
    have jB:ExqAt w8 w8.heap.size (.agg (zD xI xK xE xG xH xJ xD xF)) (mH b i+Zu 2000 [b.even,l]) (1363):=hF 159
    have HG:=HI1.o.grow aM
    obtain⟨_,_,_,_,_,_,_,_,df,-⟩:=HG.sum
    have lj:=zh (HG.put jB)
    obtain⟨q0,q1,q2,q3⟩:=df.c4
    have vh:=df.frozen (0)
    have vg:=df.frozen (1)
    have vf:=df.frozen (2)
    have ve:=df.frozen (3)
    clear hF jB df HG aM HE HI1 rj ri rh rf uc4
    have HQ0:Y0 (mH b i+Zu 2000 [b.even,l]=dx b sk si false (mH b i) 0):=by unfold Y0 dx;rw[Hl.o];rfl
    rw[HQ0.o] at lj
    clear HQ0
    go_wp2_with fail
    generalize (((((w8).setCell ⟨g8,0,none⟩ (.bool xI)).setCell ⟨g8,1,none⟩ (.slice xK xE xG)).setCell ⟨g8,2,none⟩ (.bool xH)).setCell ⟨g8,3,none⟩ (.slice xJ xD xF))=W6 at *
    clear q0 q1 q2 q3 vh vg vf ve
    have C9:Y0 (RcI w W6 b (zC b (some ⟨bs,os,none⟩) cs Al cl) gm Bo (.slice Ao i co) i g8 (dx b sk si false (mH b i) 0) (1363+31*0)):=lj
    clear lj
    go_loopw [16] (fun kx wr=>∃ k:Nat,k≤b.loads.length∧kx = .int .i64 k∧Y0 (RcI w wr b (zC b (some ⟨bs,os,none⟩) cs Al cl) gm Bo (.slice Ao i co) i g8 (dx b sk si false (mH b i) k) (1363+31*k))) (fun kx _=>b.loads.length-(intOf kx).toNat)
    case atStart=>exact⟨0,yI _,rfl,C9⟩
    clear C9
    obtain⟨k,hk,rfl,HI⟩:=hrel
    have k0:(0:Int)≤(k:Int):=yE _
    by_cases aB:k<b.loads.length
    ·have k1:(k:Int)<(b.loads.length:Int):=by omega
     obtain⟨bl,ol,rfl,aw,dW⟩:=vn.o k aB
     obtain⟨cW,cT⟩:=dW k aB
     have cW:=(HI.o.st.bel.cell (p:=⟨bl,ol+k*2,none⟩) aw).trans cW
     have cT:=(HI.o.st.bel.cell (p:=⟨bl,ol+k*2+1,none⟩) aw).trans cT
     have zk:=(HI.o.st.bel.cell (p:=⟨bs,os+p,none⟩) ip).trans Hzk.o
     obtain⟨p1,p2,p3,p4⟩:=Hb.o.loads _ (yV aB)
     have Yp:=zh (fun y=>AJ (b:=b) (f:=fT sk si false) (s:=mH b i+Zu 2000 [b.even,si-sk]) (y:=y) aB)
     have mw:=zh (tq (b:=b) (f:=fT sk si false) (s:=mH b i+Zu 2000 [b.even,si-sk]) aB)
     have Om:=zh (fun d=>AW (lo:=sk) (hi:=si) (d:=d) (left:=false) (x:=b.loads[k]))
     have On:=zh (AX (lo:=sk) (hi:=si) (left:=false) (x:=b.loads[k]))
     clear dW
     generalize b.loads[k]=x at *
     obtain⟨pos,wt⟩:=x
     simp only at cW cT p1 p2 p3 p4 Om On
     have c3:=HI.o.st.bm.cell 3
     simp only[aP,aQ,aO] at c3
     by_cases hE:sk<pos∧pos<si
     ·obtain⟨d,hd⟩:∃ d,pos-sk=d:=⟨_,rfl⟩
      have e1:decide (sk<pos)=true:=yD hE.1
      have e2:decide (pos<si)=true:=yD hE.2
      have ia:Y0 (dx b sk si false (mH b i) (k+1)=dx b sk si false (mH b i) k+Zu l [wt,d]):=by
       have:=Yp.o _ (Om.o d hE (by simpa using hd.symm))
       rw[Hl.o] at this
       unfold Y0 dx
       rw[Hl.o]
       exact this
      have v4:IntKind.i64.wrap (pos-sk)=d:=(yF _ (by omega)).trans (by omega)
      have e3:decide (d<0)=false:=yC (by omega)
      have e4:1≤d:=by omega
      have sO:wt.natAbs≤1152921504606846976:=by omega
      have hs4:d.natAbs≤1152921504606846976:=by omega
      have l3:0<l:=by omega
      have l4:l≤1152921504606846976:=by omega
      clear hE hd Yp mw Om On
      obtain⟨gM,gQ,gH,gK,gL,gP,gG,gJ,hB,hE⟩:=HI.o.sum
      obtain⟨y0,y1,y2,y3⟩:=hB.c4
      have HE:=zh hE
      clear hB hE
      go_upto_region 37 with fail
      have rj:=YL y0
      have ri:=YL y1
      have rh:=YL y2
      have rf:=YL y3
      have vV:=YL c3
      have Rj:=YL cT
      clear y0 y1 y2 y3 c3 cT
      refine ag 12 (fun jx=>if jx=8 then some (gI [wt,d]) else if jx=10 then some (jb (Zu l [wt,d]) (30)) else if jx=11 then some (jb (dx b sk si false (mH b i) k+Zu l [wt,d]) (1363+31*(k+1))) else none) (by kernel_rfl) (by kernel_rfl) ?_
      simp only[aU,aT,aW,aX]
      refine ae 8 (by kernel_rfl) (by rfl) (by decide) ?_
      simp only[aU,aT,aW,aX]
      repeat (go_big_quiet_step (fail))
      refine YH ?_
      refine br rfl rfl (fun w1 ao _=>en (T:=3) (l:=[wt,d]) (yU rfl) (by go_simp)) ?_
      rintro _ ⟨Xf,rfl⟩
      simp only[Act.put,aJ,aI,aH]
      refine ae 1 (by kernel_rfl) (by rfl) (by decide) ?_
      simp only[aU,aT,aW,aX]
      repeat (go_big_quiet_step (fail))
      refine YH ?_
      refine af rfl rfl ?_ ?_
      ·intro w1 ao hk
       have WU:bO w1 w1.heap.size (.slice (some ⟨Xf,0,none⟩) 2 2) [wt,d]:=hk 199 (yG (by kernel_rfl))
       have hC:=eE l _ [wt,d] w1 WU (yU rfl) (tZ sO hs4) l3 l4
       exact⟨134,#[.slice (some ⟨Xf,0,none⟩) 2 2,.int .i64 l],by go_simp,Zg hC⟩
      rintro _ ⟨xA,xC,xu,xx,xy,xB,xt,xv,rfl⟩
      simp only[Act.put,aJ,aI,aH]
      refine af rfl rfl ?_ ?_
      ·intro w1 ao hk
       have qvB:ExqAt w1 w1.heap.size (.agg (zD xA xC xu xx xy xB xt xv)) (Zu l [wt,d]) (30):=hk 201 (yG (by kernel_rfl))
       have hC:=ft _ _ _ _ (1363+31*k) 30 w1 (HE.o.grow ao) qvB (by omega)
       exact⟨133,#[.agg (zD gM gQ gH gK gL gP gG gJ),.agg (zD xA xC xu xx xy xB xt xv)],by go_simp,Zg hC⟩
      rintro _ ⟨KP,KR,KL,KN,KO,KQ,KJ,KM,rfl⟩
      simp only[Act.put,aJ,aI,aH]
      refine Zc ?_
      intro w8 aM hF
      have jB:ExqAt w8 w8.heap.size (.agg (zD KP KR KL KN KO KQ KJ KM)) (dx b sk si false (mH b i) k+Zu l [wt,d]) (1363+31*(k+1)):=hF 202
      have HG:=HI.o.grow aM
      obtain⟨_,_,_,_,_,_,_,_,df,-⟩:=HG.sum
      have lj:=zh (HG.put jB)
      obtain⟨q0,q1,q2,q3⟩:=df.c4
      have vh:=df.frozen (0)
      have vg:=df.frozen (1)
      have vf:=df.frozen (2)
      have ve:=df.frozen (3)
      clear hF jB df HG aM HE HI rj ri rh rf vV Rj
      rw[← ia.o] at lj
      go_wp2_with fail
      clear q0 q1 q2 q3 vh vg vf ve ia
      go_roundw
      case rel=>exact⟨k+1,by omega,by go_num,lj⟩
      simp[intOf];omega
     have ia:Y0 (dx b sk si false (mH b i) (k+1)=dx b sk si false (mH b i) k):=mw.o (On.o hE)
     have lj:Y0 (RcI w wr b (zC b (some ⟨bs,os,none⟩) cs (some ⟨bl,ol,none⟩) cl) gm Bo (.slice Ao i co) i g8 (dx b sk si false (mH b i) (k+1)) (1363+31*(k+1))):=by
      rw[ia.o]
      exact HI.o.more (by omega)
     have hc:decide (sk<pos)=false∨decide (sk<pos)=true∧decide (pos<si)=false:=by
      by_cases h:sk<pos
      ·exact .inr ⟨yD h,yC (fun h2=>hE ⟨h,h2⟩)⟩
      exact .inl (yC h)
     clear hE Yp mw Om On HI ia
     rcases hc with e1 | ⟨e1,e2⟩
     all_goals
      go_wp2_with fail
      go_roundw
      case rel=>exact⟨k+1,by omega,by go_num,lj⟩
      simp[intOf];omega
    obtain rfl:k=b.loads.length:=by omega
    have lj:Y0 (RcI w wr b (zC b (some ⟨bs,os,none⟩) cs Al cl) gm Bo (.slice Ao i co) i g8 (dx b sk si false (mH b i) b.loads.length) (2603)):=HI.o.more (by omega)
    clear HI
    obtain⟨gM,gQ,gH,gK,gL,gP,gG,gJ,hB,hE⟩:=lj.o.sum
    obtain⟨y0,y1,y2,y3⟩:=hB.c4
    have HE:=zh hE
    clear hB hE
    have c3:=lj.o.st.bm.cell 3
    simp only[aP,aQ,aO] at c3
    obtain⟨ab1,aA1,al1,ac1,ab2,aA2,al2,ac2,a0,a1,a2,a3,aE⟩:=lj.o.st.m.read (i:=p) hpn
    obtain⟨db1,dA1,dl1,dc1,db2,dA2,dl2,dc2,d0,d1,d2,d3,dE⟩:=lj.o.st.m.read (i:=i) rk
    have HA:=zh (aE _ rfl)
    have HD:=zh (dE _ rfl)
    have sO:(1:Int).natAbs≤1152921504606846976:=by decide
    have l3:0<l:=by omega
    have l4:l≤1152921504606846976:=by omega
    clear aE dE
    go_upto_region 38 with fail
    clear c3
    have rj:=YL y0
    have ri:=YL y1
    have rh:=YL y2
    have rf:=YL y3
    have pY:=YL a0
    have pX:=YL a1
    have pW:=YL a2
    have pV:=YL a3
    have FL:=YL d0
    have FK:=YL d1
    have FJ:=YL d2
    have FI:=YL d3
    clear y0 y1 y2 y3 a0 a1 a2 a3 d0 d1 d2 d3
    refine ag 15 (fun jx=>if jx=9 then some (jb (Zx b p-Zx b i) (135061)) else if jx=10 then some (gI [1]) else if jx=12 then some (jb (Zu l [1]) (30)) else if jx=13 then some (jb ((Zx b p-Zx b i)*Zu l [1]) (135091)) else if jx=14 then some (jb (dx b sk si false (mH b i) b.loads.length+(Zx b p-Zx b i)*Zu l [1]) (137695)) else none) (by kernel_rfl) (by kernel_rfl) ?_
    simp only[aU,aT,aW,aX]
    refine ae 9 (by kernel_rfl) (by rfl) (by decide) ?_
    simp only[aU,aT,aW,aX]
    repeat (go_big_quiet_step (fail))
    refine YH ?_
    refine af rfl rfl ?_ ?_
    ·intro w1 ao hk
     have hC:=kh _ _ _ _ 67530 67530 w1 (HA.o.grow ao) (HD.o.grow ao) (by decide)
     exact⟨136,#[.agg (zD ab1 aA1 al1 ac1 ab2 aA2 al2 ac2),.agg (zD db1 dA1 dl1 dc1 db2 dA2 dl2 dc2)],by go_simp,Zg hC⟩
    rintro _ ⟨xo,xr,xi,xk,xl,xq,xh,xj,rfl⟩
    simp only[Act.put,aJ,aI,aH]
    refine br rfl rfl (fun w1 ao _=>en (T:=3) (l:=[1]) (yU rfl) (by go_simp)) ?_
    rintro _ ⟨Xe,rfl⟩
    simp only[Act.put,aJ,aI,aH]
    refine ae 1 (by kernel_rfl) (by rfl) (by decide) ?_
    simp only[aU,aT,aW,aX]
    repeat (go_big_quiet_step (fail))
    refine YH ?_
    refine af rfl rfl ?_ ?_
    ·intro w1 ao hk
     have qvy:bO w1 w1.heap.size (.slice (some ⟨Xe,0,none⟩) 1 1) [1]:=hk 213 (yG (by kernel_rfl))
     have hC:=eE l _ [1] w1 qvy (yU rfl) (CL sO) l3 l4
     exact⟨134,#[.slice (some ⟨Xe,0,none⟩) 1 1,.int .i64 l],by go_simp,Zg hC⟩
    rintro _ ⟨xe,xg,xa,xc,xd,xf,wZ,xb,rfl⟩
    simp only[Act.put,aJ,aI,aH]
    refine af rfl rfl ?_ ?_
    ·intro w1 ao hk
     have qvz:ExqAt w1 w1.heap.size (.agg (zD xo xr xi xk xl xq xh xj)) (Zx b p-Zx b i) (135061):=hk 212 (yG (by kernel_rfl))
     have qvx:ExqAt w1 w1.heap.size (.agg (zD xe xg xa xc xd xf wZ xb)) (Zu l [1]) (30):=hk 215 (yG (by kernel_rfl))
     have hC:=nL _ _ _ _ 135061 30 w1 qvz qvx (by decide)
     exact⟨135,#[.agg (zD xo xr xi xk xl xq xh xj),.agg (zD xe xg xa xc xd xf wZ xb)],by go_simp,Zg hC⟩
    rintro _ ⟨wW,wY,wS,wU,wV,wX,wR,wT,rfl⟩
    simp only[Act.put,aJ,aI,aH]
    refine af rfl rfl ?_ ?_
    ·intro w1 ao hk
     have qvw:ExqAt w1 w1.heap.size (.agg (zD wW wY wS wU wV wX wR wT)) ((Zx b p-Zx b i)*Zu l [1]) (135091):=hk 216 (yG (by kernel_rfl))
     have hC:=ft _ _ _ _ 2603 135091 w1 (HE.o.grow ao) qvw (by decide)
     exact⟨133,#[.agg (zD gM gQ gH gK gL gP gG gJ),.agg (zD wW wY wS wU wV wX wR wT)],by go_simp,Zg hC⟩
    rintro _ ⟨KG,KI,KB,KD,KE,KH,KA,KC,rfl⟩
    simp only[Act.put,aJ,aI,aH]
    refine Zc ?_
    intro w8 aM hF
    have jB:ExqAt w8 w8.heap.size (.agg (zD KG KI KB KD KE KH KA KC)) (dx b sk si false (mH b i) b.loads.length+(Zx b p-Zx b i)*Zu l [1]) (137695):=hF 217
    have HG:=lj.o.grow aM
    obtain⟨_,_,_,_,_,_,_,_,df,-⟩:=HG.sum
    have C9:=zh (HG.put jB)
    obtain⟨q0,q1,q2,q3⟩:=df.c4
    have vh:=df.frozen (0)
    have vg:=df.frozen (1)
    have vf:=df.frozen (2)
    have ve:=df.frozen (3)
    clear hF jB df HG aM HE lj rj ri rh rf pY pX pW pV FL FK FJ FI HA HD
    have HQ1:Y0 (dx b sk si false (mH b i) b.loads.length+(Zx b p-Zx b i)*Zu l [1]=ug b i 1):=by
     have:=Oa b sk si false (Zx b i) (Zx b p) (mH b i)
     rw[Hl.o] at this
     exact this.trans Cj.o
    rw[HQ1.o] at C9
    clear HQ1
    go_wp2_with fail
    clear q0 q1 q2 q3 vh vg vf ve
    go_roundw
    case rel=>exact⟨1,by decide,rfl,C9⟩
    simp[intOf]
   skip
   have es:((0:Nat):Int)=0:=rfl
   rw[es]
   clear es hs
   have lj:Y0 (RcI w wr b (zC b (some ⟨bs,os,none⟩) cs Al cl) gm Bo (.slice Ao i co) i g8 (ug b i 1) (1332+136363*1)):=by
    have e:mH b i=nt b i:=by unfold nt;rw[if_neg il]
    exact (HI.o.is (q':=ug b i 1) e).more (by decide)
   clear HI
   have v1:IntKind.i64.wrap ((i:Int)-1) = -1:=(yF _ (by omega)).trans (by omega)
   have d1:decide ((-1:Int)<0)=true:=by decide
   clear il
   go_wp2_with fail
   go_roundw
   case rel=>exact⟨1,by decide,rfl,lj⟩
   simp[intOf]
  ·by_cases il:i+1<b.sup.length
   ·as_aux_lemma=>
    have es:((0+1:Nat):Int)=1:=rfl
    rw[es]
    clear es hs
    have QU:Y0 (RcI w wr b (zC b (some ⟨bs,os,none⟩) cs Al cl) gm Bo (.slice Ao i co) i g8 (nt b i) (137695)):=HI
    clear HI
    have HSo:=zh il
    obtain⟨p,hp⟩:∃ p,i+1=p:=⟨_,rfl⟩
    have v0:IntKind.i64.wrap ((i:Int)-1)=(i:Int)-1:=yF _ (by omega)
    have v1:IntKind.i64.wrap ((i:Int)+1)=(p:Int):=(yF _ (by omega)).trans (by omega)
    have t1:=Hb.o.inc i (by omega)
    rw[hp] at t1
    have Cj:Y0 (Fl b (ak b i) (ak b p) true (Zx b i) (Zx b p) (nt b i)=OL b i):=by unfold Y0 OL;rw[if_pos il,hp]
    have hpn:p<b.sup.length:=by omega
    have z1:=(QU.o.st.bel.cell (p:=⟨bs,os+i,none⟩) ip).trans (lq.o i rk)
    have zk:=(QU.o.st.bel.cell (p:=⟨bs,os+p,none⟩) ip).trans (lq.o p hpn)
    have Hzk:=zh (lq.o p hpn)
    have t2:=Hb.o.sup i rk
    have t3:=Hb.o.sup p hpn
    have p0:(0:Int)≤(p:Int):=yE _
    have pn:(p:Int)<(b.sup.length:Int):=by omega
    have d1:decide ((p:Int)<0)=false:=yC (by omega)
    have d2:decide ((b.sup.length:Int)≤(p:Int))=false:=yC (by omega)
    have d3:decide (b.sup.length≤p)=false:=yC (by omega)
    have Hp:=zh hp
    generalize ak b i=si at *
    generalize ak b p=sk at *
    obtain⟨t21,t22⟩:=t2
    obtain⟨t31,t32⟩:=t3
    obtain⟨l,hl⟩:∃ l,sk-si=l:=⟨_,rfl⟩
    have l1:1≤l:=by omega
    have l2:l≤1048576:=by omega
    have v2:IntKind.i64.wrap (sk-si)=l:=(yF _ (by omega)).trans hl
    have Hl:=zh hl
    clear hp il hl
    go_upto_region 26 with fail
    go_quiet (fail)
    go_upto_region 28 with fail
    generalize NB:wr.drewN nq=W5 at *
    have HI1:Y0 (RcI w W5 b (zC b (some ⟨bs,os,none⟩) cs Al cl) gm Bo (.slice Ao i co) i g8 (nt b i) (137695)):=by rw[← NB];exact QU.o.grow (Zf (yB _ _) _)
    clear NB QU z1 zk d1 d2 d3
    have mz:b.even.natAbs≤1152921504606846976:=by omega
    have jU:l.natAbs≤1152921504606846976:=by omega
    obtain⟨gM,gQ,gH,gK,gL,gP,gG,gJ,hB,hE⟩:=HI1.o.sum
    obtain⟨y0,y1,y2,y3⟩:=hB.c4
    have HE:=zh hE
    clear hB hE
    have c4:=HI1.o.st.bm.cell 4
    simp only[aP,aQ,aO] at c4
    have rj:=YL y0
    have ri:=YL y1
    have rh:=YL y2
    have rf:=YL y3
    have uc4:=YL c4
    clear y0 y1 y2 y3 c4
    refine ag 7 (fun jx=>if jx=4 then some (gI [b.even,l]) else if jx=5 then some (jb (Zu 2000 [b.even,l]) (30)) else if jx=6 then some (jb (nt b i+Zu 2000 [b.even,l]) (137726)) else none) (by kernel_rfl) (by kernel_rfl) ?_
    simp only[aU,aT,aW,aX]
    refine ae 4 (by kernel_rfl) (by rfl) (by decide) ?_
    simp only[aU,aT,aW,aX]
    repeat (go_big_quiet_step (fail))
    refine YH ?_
    refine br rfl rfl (fun w1 ao _=>en (T:=3) (l:=[b.even,l]) (yU rfl) (by go_simp)) ?_
    rintro _ ⟨Xg,rfl⟩
    simp only[Act.put,aJ,aI,aH]
    refine af rfl rfl ?_ ?_
    ·intro w1 ao hk
     have EV:bO w1 w1.heap.size (.slice (some ⟨Xg,0,none⟩) 2 2) [b.even,l]:=hk 157 (yG (by kernel_rfl))
     have hC:=eE 2000 _ [b.even,l] w1 EV (yU rfl) (tZ mz jU) (by decide) (by decide)
     exact⟨134,#[.slice (some ⟨Xg,0,none⟩) 2 2,.int .i64 2000],by go_simp,Zg hC⟩
    rintro _ ⟨xQ,xS,xM,xO,xP,xR,xL,xN,rfl⟩
    simp only[Act.put,aJ,aI,aH]
    refine af rfl rfl ?_ ?_
    ·intro w1 ao hk
     have qvE:ExqAt w1 w1.heap.size (.agg (zD xQ xS xM xO xP xR xL xN)) (Zu 2000 [b.even,l]) (30):=hk 158 (yG (by kernel_rfl))
     have hC:=ft _ _ _ _ (137695) 30 w1 (HE.o.grow ao) qvE (by omega)
     exact⟨133,#[.agg (zD gM gQ gH gK gL gP gG gJ),.agg (zD xQ xS xM xO xP xR xL xN)],by go_simp,Zg hC⟩
    rintro _ ⟨xI,xK,xE,xG,xH,xJ,xD,xF,rfl⟩
    simp only[Act.put,aJ,aI,aH]
    refine Zc ?_
    intro w8 aM hF
    have jB:ExqAt w8 w8.heap.size (.agg (zD xI xK xE xG xH xJ xD xF)) (nt b i+Zu 2000 [b.even,l]) (137726):=hF 159
    have HG:=HI1.o.grow aM
    obtain⟨_,_,_,_,_,_,_,_,df,-⟩:=HG.sum
    have lj:=zh (HG.put jB)
    obtain⟨q0,q1,q2,q3⟩:=df.c4
    have vh:=df.frozen (0)
    have vg:=df.frozen (1)
    have vf:=df.frozen (2)
    have ve:=df.frozen (3)
    clear hF jB df HG aM HE HI1 rj ri rh rf uc4
    have HQ0:Y0 (nt b i+Zu 2000 [b.even,l]=dx b si sk true (nt b i) 0):=by unfold Y0 dx;rw[Hl.o];rfl
    rw[HQ0.o] at lj
    clear HQ0
    go_wp2_with fail
    generalize (((((w8).setCell ⟨g8,0,none⟩ (.bool xI)).setCell ⟨g8,1,none⟩ (.slice xK xE xG)).setCell ⟨g8,2,none⟩ (.bool xH)).setCell ⟨g8,3,none⟩ (.slice xJ xD xF))=W6 at *
    clear q0 q1 q2 q3 vh vg vf ve
    have C9:Y0 (RcI w W6 b (zC b (some ⟨bs,os,none⟩) cs Al cl) gm Bo (.slice Ao i co) i g8 (dx b si sk true (nt b i) 0) (137726+31*0)):=lj
    clear lj
    go_loopw [16] (fun kx wr=>∃ k:Nat,k≤b.loads.length∧kx = .int .i64 k∧Y0 (RcI w wr b (zC b (some ⟨bs,os,none⟩) cs Al cl) gm Bo (.slice Ao i co) i g8 (dx b si sk true (nt b i) k) (137726+31*k))) (fun kx _=>b.loads.length-(intOf kx).toNat)
    case atStart=>exact⟨0,yI _,rfl,C9⟩
    clear C9
    obtain⟨k,hk,rfl,HI⟩:=hrel
    have k0:(0:Int)≤(k:Int):=yE _
    by_cases aB:k<b.loads.length
    ·have k1:(k:Int)<(b.loads.length:Int):=by omega
     obtain⟨bl,ol,rfl,aw,dW⟩:=vn.o k aB
     obtain⟨cW,cT⟩:=dW k aB
     have cW:=(HI.o.st.bel.cell (p:=⟨bl,ol+k*2,none⟩) aw).trans cW
     have cT:=(HI.o.st.bel.cell (p:=⟨bl,ol+k*2+1,none⟩) aw).trans cT
     have zk:=(HI.o.st.bel.cell (p:=⟨bs,os+p,none⟩) ip).trans Hzk.o
     obtain⟨p1,p2,p3,p4⟩:=Hb.o.loads _ (yV aB)
     have Yp:=zh (fun y=>AJ (b:=b) (f:=fT si sk true) (s:=nt b i+Zu 2000 [b.even,sk-si]) (y:=y) aB)
     have mw:=zh (tq (b:=b) (f:=fT si sk true) (s:=nt b i+Zu 2000 [b.even,sk-si]) aB)
     have Om:=zh (fun d=>AW (lo:=si) (hi:=sk) (d:=d) (left:=true) (x:=b.loads[k]))
     have On:=zh (AX (lo:=si) (hi:=sk) (left:=true) (x:=b.loads[k]))
     clear dW
     generalize b.loads[k]=x at *
     obtain⟨pos,wt⟩:=x
     simp only at cW cT p1 p2 p3 p4 Om On
     have c3:=HI.o.st.bm.cell 3
     simp only[aP,aQ,aO] at c3
     by_cases hE:si<pos∧pos<sk
     ·obtain⟨d,hd⟩:∃ d,sk-pos=d:=⟨_,rfl⟩
      have e1:decide (si<pos)=true:=yD hE.1
      have e2:decide (pos<sk)=true:=yD hE.2
      have ia:Y0 (dx b si sk true (nt b i) (k+1)=dx b si sk true (nt b i) k+Zu l [wt,d]):=by
       have:=Yp.o _ (Om.o d hE (by simpa using hd.symm))
       rw[Hl.o] at this
       unfold Y0 dx
       rw[Hl.o]
       exact this
      have v4:IntKind.i64.wrap (pos-sk) = -d:=(yF _ (by omega)).trans (by omega)
      have e3:decide (-d<0)=true:=yD (by omega)
      have v5:IntKind.i64.wrap d=d:=yF _ (by omega)
      have v6:IntKind.i64.wrap (0 - -d)=d:=(yF _ (by omega)).trans (by omega)
      have e4:1≤d:=by omega
      have sO:wt.natAbs≤1152921504606846976:=by omega
      have hs4:d.natAbs≤1152921504606846976:=by omega
      have l3:0<l:=by omega
      have l4:l≤1152921504606846976:=by omega
      clear hE hd Yp mw Om On
      obtain⟨gM,gQ,gH,gK,gL,gP,gG,gJ,hB,hE⟩:=HI.o.sum
      obtain⟨y0,y1,y2,y3⟩:=hB.c4
      have HE:=zh hE
      clear hB hE
      go_upto_region 37 with fail
      have rj:=YL y0
      have ri:=YL y1
      have rh:=YL y2
      have rf:=YL y3
      have vV:=YL c3
      have Rj:=YL cT
      clear y0 y1 y2 y3 c3 cT
      refine ag 12 (fun jx=>if jx=8 then some (gI [wt,d]) else if jx=10 then some (jb (Zu l [wt,d]) (30)) else if jx=11 then some (jb (dx b si sk true (nt b i) k+Zu l [wt,d]) (137726+31*(k+1))) else none) (by kernel_rfl) (by kernel_rfl) ?_
      simp only[aU,aT,aW,aX]
      refine ae 8 (by kernel_rfl) (by rfl) (by decide) ?_
      simp only[aU,aT,aW,aX]
      repeat (go_big_quiet_step (fail))
      refine YH ?_
      refine br rfl rfl (fun w1 ao _=>en (T:=3) (l:=[wt,d]) (yU rfl) (by go_simp)) ?_
      rintro _ ⟨Xf,rfl⟩
      simp only[Act.put,aJ,aI,aH]
      refine ae 1 (by kernel_rfl) (by rfl) (by decide) ?_
      simp only[aU,aT,aW,aX]
      repeat (go_big_quiet_step (fail))
      refine YH ?_
      refine af rfl rfl ?_ ?_
      ·intro w1 ao hk
       have WU:bO w1 w1.heap.size (.slice (some ⟨Xf,0,none⟩) 2 2) [wt,d]:=hk 199 (yG (by kernel_rfl))
       have hC:=eE l _ [wt,d] w1 WU (yU rfl) (tZ sO hs4) l3 l4
       exact⟨134,#[.slice (some ⟨Xf,0,none⟩) 2 2,.int .i64 l],by go_simp,Zg hC⟩
      rintro _ ⟨xA,xC,xu,xx,xy,xB,xt,xv,rfl⟩
      simp only[Act.put,aJ,aI,aH]
      refine af rfl rfl ?_ ?_
      ·intro w1 ao hk
       have qvB:ExqAt w1 w1.heap.size (.agg (zD xA xC xu xx xy xB xt xv)) (Zu l [wt,d]) (30):=hk 201 (yG (by kernel_rfl))
       have hC:=ft _ _ _ _ (137726+31*k) 30 w1 (HE.o.grow ao) qvB (by omega)
       exact⟨133,#[.agg (zD gM gQ gH gK gL gP gG gJ),.agg (zD xA xC xu xx xy xB xt xv)],by go_simp,Zg hC⟩
      rintro _ ⟨KP,KR,KL,KN,KO,KQ,KJ,KM,rfl⟩
      simp only[Act.put,aJ,aI,aH]
      refine Zc ?_
      intro w8 aM hF
      have jB:ExqAt w8 w8.heap.size (.agg (zD KP KR KL KN KO KQ KJ KM)) (dx b si sk true (nt b i) k+Zu l [wt,d]) (137726+31*(k+1)):=hF 202
      have HG:=HI.o.grow aM
      obtain⟨_,_,_,_,_,_,_,_,df,-⟩:=HG.sum
      have lj:=zh (HG.put jB)
      obtain⟨q0,q1,q2,q3⟩:=df.c4
      have vh:=df.frozen (0)
      have vg:=df.frozen (1)
      have vf:=df.frozen (2)
      have ve:=df.frozen (3)
      clear hF jB df HG aM HE HI rj ri rh rf vV Rj
      rw[← ia.o] at lj
      go_wp2_with fail
      clear q0 q1 q2 q3 vh vg vf ve ia
      go_roundw
      case rel=>exact⟨k+1,by omega,by go_num,lj⟩
      simp[intOf];omega
     have ia:Y0 (dx b si sk true (nt b i) (k+1)=dx b si sk true (nt b i) k):=mw.o (On.o hE)
     have lj:Y0 (RcI w wr b (zC b (some ⟨bs,os,none⟩) cs (some ⟨bl,ol,none⟩) cl) gm Bo (.slice Ao i co) i g8 (dx b si sk true (nt b i) (k+1)) (137726+31*(k+1))):=by
      rw[ia.o]
      exact HI.o.more (by omega)
     have hc:decide (si<pos)=false∨decide (si<pos)=true∧decide (pos<sk)=false:=by
      by_cases h:si<pos
      ·exact .inr ⟨yD h,yC (fun h2=>hE ⟨h,h2⟩)⟩
      exact .inl (yC h)
     clear hE Yp mw Om On HI ia
     rcases hc with e1 | ⟨e1,e2⟩
     all_goals
      go_wp2_with fail
      go_roundw
      case rel=>exact⟨k+1,by omega,by go_num,lj⟩
      simp[intOf];omega
    obtain rfl:k=b.loads.length:=by omega
    have lj:Y0 (RcI w wr b (zC b (some ⟨bs,os,none⟩) cs Al cl) gm Bo (.slice Ao i co) i g8 (dx b si sk true (nt b i) b.loads.length) (138966)):=HI.o.more (by omega)
    clear HI
    obtain⟨gM,gQ,gH,gK,gL,gP,gG,gJ,hB,hE⟩:=lj.o.sum
    obtain⟨y0,y1,y2,y3⟩:=hB.c4
    have HE:=zh hE
    clear hB hE
    have c3:=lj.o.st.bm.cell 3
    simp only[aP,aQ,aO] at c3
    obtain⟨ab1,aA1,al1,ac1,ab2,aA2,al2,ac2,a0,a1,a2,a3,aE⟩:=lj.o.st.m.read (i:=p) hpn
    obtain⟨db1,dA1,dl1,dc1,db2,dA2,dl2,dc2,d0,d1,d2,d3,dE⟩:=lj.o.st.m.read (i:=i) rk
    have HA:=zh (aE _ rfl)
    have HD:=zh (dE _ rfl)
    have sO:(1:Int).natAbs≤1152921504606846976:=by decide
    have l3:0<l:=by omega
    have l4:l≤1152921504606846976:=by omega
    clear aE dE
    go_upto_region 38 with fail
    clear c3
    have rj:=YL y0
    have ri:=YL y1
    have rh:=YL y2
    have rf:=YL y3
    have pY:=YL a0
    have pX:=YL a1
    have pW:=YL a2
    have pV:=YL a3
    have FL:=YL d0
    have FK:=YL d1
    have FJ:=YL d2
    have FI:=YL d3
    clear y0 y1 y2 y3 a0 a1 a2 a3 d0 d1 d2 d3
    refine ag 15 (fun jx=>if jx=9 then some (jb (Zx b p-Zx b i) (135061)) else if jx=10 then some (gI [1]) else if jx=12 then some (jb (Zu l [1]) (30)) else if jx=13 then some (jb ((Zx b p-Zx b i)*Zu l [1]) (135091)) else if jx=14 then some (jb (dx b si sk true (nt b i) b.loads.length+(Zx b p-Zx b i)*Zu l [1]) (274058)) else none) (by kernel_rfl) (by kernel_rfl) ?_
    simp only[aU,aT,aW,aX]
    refine ae 9 (by kernel_rfl) (by rfl) (by decide) ?_
    simp only[aU,aT,aW,aX]
    repeat (go_big_quiet_step (fail))
    refine YH ?_
    refine af rfl rfl ?_ ?_
    ·intro w1 ao hk
     have hC:=kh _ _ _ _ 67530 67530 w1 (HA.o.grow ao) (HD.o.grow ao) (by decide)
     exact⟨136,#[.agg (zD ab1 aA1 al1 ac1 ab2 aA2 al2 ac2),.agg (zD db1 dA1 dl1 dc1 db2 dA2 dl2 dc2)],by go_simp,Zg hC⟩
    rintro _ ⟨xo,xr,xi,xk,xl,xq,xh,xj,rfl⟩
    simp only[Act.put,aJ,aI,aH]
    refine br rfl rfl (fun w1 ao _=>en (T:=3) (l:=[1]) (yU rfl) (by go_simp)) ?_
    rintro _ ⟨Xe,rfl⟩
    simp only[Act.put,aJ,aI,aH]
    refine ae 1 (by kernel_rfl) (by rfl) (by decide) ?_
    simp only[aU,aT,aW,aX]
    repeat (go_big_quiet_step (fail))
    refine YH ?_
    refine af rfl rfl ?_ ?_
    ·intro w1 ao hk
     have qvy:bO w1 w1.heap.size (.slice (some ⟨Xe,0,none⟩) 1 1) [1]:=hk 213 (yG (by kernel_rfl))
     have hC:=eE l _ [1] w1 qvy (yU rfl) (CL sO) l3 l4
     exact⟨134,#[.slice (some ⟨Xe,0,none⟩) 1 1,.int .i64 l],by go_simp,Zg hC⟩
    rintro _ ⟨xe,xg,xa,xc,xd,xf,wZ,xb,rfl⟩
    simp only[Act.put,aJ,aI,aH]
    refine af rfl rfl ?_ ?_
    ·intro w1 ao hk
     have qvz:ExqAt w1 w1.heap.size (.agg (zD xo xr xi xk xl xq xh xj)) (Zx b p-Zx b i) (135061):=hk 212 (yG (by kernel_rfl))
     have qvx:ExqAt w1 w1.heap.size (.agg (zD xe xg xa xc xd xf wZ xb)) (Zu l [1]) (30):=hk 215 (yG (by kernel_rfl))
     have hC:=nL _ _ _ _ 135061 30 w1 qvz qvx (by decide)
     exact⟨135,#[.agg (zD xo xr xi xk xl xq xh xj),.agg (zD xe xg xa xc xd xf wZ xb)],by go_simp,Zg hC⟩
    rintro _ ⟨wW,wY,wS,wU,wV,wX,wR,wT,rfl⟩
    simp only[Act.put,aJ,aI,aH]
    refine af rfl rfl ?_ ?_
    ·intro w1 ao hk
     have qvw:ExqAt w1 w1.heap.size (.agg (zD wW wY wS wU wV wX wR wT)) ((Zx b p-Zx b i)*Zu l [1]) (135091):=hk 216 (yG (by kernel_rfl))
     have hC:=ft _ _ _ _ 138966 135091 w1 (HE.o.grow ao) qvw (by decide)
     exact⟨133,#[.agg (zD gM gQ gH gK gL gP gG gJ),.agg (zD wW wY wS wU wV wX wR wT)],by go_simp,Zg hC⟩
    rintro _ ⟨KG,KI,KB,KD,KE,KH,KA,KC,rfl⟩
    simp only[Act.put,aJ,aI,aH]
    refine Zc ?_
    intro w8 aM hF
    have jB:ExqAt w8 w8.heap.size (.agg (zD KG KI KB KD KE KH KA KC)) (dx b si sk true (nt b i) b.loads.length+(Zx b p-Zx b i)*Zu l [1]) (274058):=hF 217
    have HG:=lj.o.grow aM
    obtain⟨_,_,_,_,_,_,_,_,df,-⟩:=HG.sum
    have C9:=zh (HG.put jB)
    obtain⟨q0,q1,q2,q3⟩:=df.c4
    have vh:=df.frozen (0)
    have vg:=df.frozen (1)
    have vf:=df.frozen (2)
    have ve:=df.frozen (3)
    clear hF jB df HG aM HE lj rj ri rh rf pY pX pW pV FL FK FJ FI HA HD
    have HQ1:Y0 (dx b si sk true (nt b i) b.loads.length+(Zx b p-Zx b i)*Zu l [1]=ug b i 2):=by
     have:=Oa b si sk true (Zx b i) (Zx b p) (nt b i)
     rw[Hl.o] at this
     exact this.trans Cj.o
    rw[HQ1.o] at C9
    clear HQ1
    go_wp2_with fail
    clear q0 q1 q2 q3 vh vg vf ve
    go_roundw
    case rel=>exact⟨2,by decide,rfl,C9⟩
    simp[intOf]
   skip
   have es:((0+1:Nat):Int)=1:=rfl
   rw[es]
   clear es hs
   have lj:Y0 (RcI w wr b (zC b (some ⟨bs,os,none⟩) cs Al cl) gm Bo (.slice Ao i co) i g8 (ug b i 2) (1332+136363*2)):=by
    have e:nt b i=OL b i:=by unfold OL;rw[if_neg il]
    exact (HI.o.is (q':=ug b i 2) e).more (by decide)
   clear HI
   have v0:IntKind.i64.wrap ((i:Int)-1)=(i:Int)-1:=yF _ (by omega)
   have v1:IntKind.i64.wrap ((i:Int)+1)=(b.sup.length:Int):=(yF _ (by omega)).trans (by omega)
   have d1:decide ((b.sup.length:Int)<0)=false:=yC (by omega)
   clear il
   go_wp2_with fail
   go_roundw
   case rel=>exact⟨2,by decide,rfl,lj⟩
   simp[intOf]
  obtain rfl:s=0:=by omega
  have es:((0+1+1:Nat):Int)=2:=rfl
  rw[es]
  have lj:Y0 (RcI w wr b (zC b (some ⟨bs,os,none⟩) cs Al cl) gm Bo (.slice Ao i co) i g8 (OL b i) (274058)):=HI.o
  clear es hs HI
  obtain⟨gM,gQ,gH,gK,gL,gP,gG,gJ,hB,hE⟩:=lj.o.sum
  obtain⟨y0,y1,y2,y3⟩:=hB.c4
  have HE:=zh hE
  clear hB hE
  go_wp2_with fail
  refine (R4 _ (OL b i) 274058 wr HE.o (by decide)).mono ?_
  rintro e w9 ⟨v9,rfl,ja,hE9⟩
  obtain⟨Km,Ko,Ki,Kk,Kl,Kn,Kh,Kj,_,_,rfl,-⟩:=bR hE9
  obtain⟨iE,LP,qM,qL,tD⟩:=info_parts IJ
  have iP:Below w9.heap.size w9 (w9.alloc (.cells (zD Km Ko Ki Kk Kl Kn Kh Kj) 175)):=(yB _ _).alloc (yA _) _
  have HQ9:=zh ((lj.o.st.grow ja).grow iP)
  have HE9:=zh ((hE9.more (K':=280000) (by decide)).grow iP)
  obtain⟨es,h1,h2,h3⟩:=HQ9.o.o
  have H1:=zh h1
  have Oi:=zh h2
  have H3:=zh h3
  have rV:=World.news_of_block (Blk.new w9 175 (zD Km Ko Ki Kk Kl Kn Kh Kj))
  have sK:=zh rV
  have QI:=HQ9.o.bl
  clear h1 h2 h3 rV hE9 ja iP lj HE y0 y1 y2 y3
  go_wp2_with (at_builtin;refine wpList_append_own _ rfl _ _ 132 rfl Bo 175 iE (.agg (zD false none 0 0 false none 0 0)) 4 64 Tryz.underlying132 LP qM qL tD rfl (by decide) _ _ _ rfl Oi.o ⟨w9.heap.size,0,none⟩ 1 1 [.bool Km,.slice Ko Ki Kk,.bool Kl,.slice Kn Kh Kj] rfl rfl sK.o (by simp[Value.oneCell']) (by unfold maxLen;omega) (by omega) QI ?_;intro v' w1 fV dL _;obtain⟨g',oV,rfl⟩:=ownsRow_succ fV)
  have vqu:=zh (HQ9.o.push H1.o Oi.o H3.o HE9.o dL fV)
  clear fV dL Oi H1 H3 HE9 HQ9 sK QI LP qM qL tD
  go_roundg (b.sup.length-(i+1))
  case rel=>exact⟨i+1,_,_,by omega,by go_num,rfl,vqu⟩
  have:=Hgk.o;omega
 obtain rfl:i=b.sup.length:=by omega
 have HR:=zh HQ.o.o.eqs
 have HBE:=zh HQ.o.bel
 have HL:Y0 ((List.range b.sup.length).map (OL b)=ef b):=List.map_congr_left fun j hj=>qzN b Hb.o.inc j (List.mem_range.1 hj)
 rw[HL.o] at HR
 clear HQ
 go_wp2_with fail
 refine YI (results_tmp rfl _ _ _) (by rfl) ?_
 exact⟨HBE.o,_,rfl,HR.o⟩
end Go.Proofs.YtfhmbechennkbaaGreatDoor
