/- Lemmas. -/
import Derived.Test.YtmmhehgajkaniaaGreatDoorZ26
namespace Go.Proofs.YtmmhehgajkaniaaGreatDoor
open Go.RowKit Go.Shelf
theorem qv9 {w0 w:World} {v:Value} {q:Rat} {K:Nat} {e:Ending} {w':World} (hv:ExqAt w0 w0.heap.size v q K) (h:Dr w q e w'):eD w q K e w':=by
 obtain⟨s1,v1,s2,v2,N,D,-,h1,h2,h3,h4,h5,rfl⟩:=hv;obtain⟨e1,e2⟩:=rP (n:=N) (d:=D) (by omega);refine LS h ?_ ?_
 ·rw[e1];exact yH (cj (YK _ _)) h4
 rw[e2];exact yH (cj (YK _ _)) h5
theorem Qt (v:Value) (x:Rat) (K:Nat) (w:World) (hv:ExqAt w w.heap.size v x K) (hK:K≤300000):Calls Tryz.prog 148 #[v] w (eD w x K) :=
 (Ci v x K w hv hK).mono fun _ _ h=>qv9 hv h
theorem Fv {b:BeamT} {f:LoadT→Option Rat} {s y:Rat} {k:Nat} (hk:k<b.loads.length) (h:f b.loads[k]=some y):az b f s (k+1)=az b f s k+y:=by
 rw[Zl hk,h]
theorem Bg {b:BeamT} {f:LoadT→Option Rat} {s:Rat} {k:Nat} (hk:k<b.loads.length) (h:f b.loads[k]=none):az b f s (k+1)=az b f s k:=by
 rw[Zl hk,h]
theorem V1 (b:BeamT) (i:Nat) (x:LoadT) (h:x.pos=ah b i∨(i=0∧x.pos<ah b 0)∨(i+1=b.sup.length∧ah b i<x.pos)):qN b i x=some (Zu 1 [x.wt]):=by
 unfold qN;rw[if_pos h,rG]
theorem V3 (b:BeamT) (i:Nat) (x:LoadT) (h:¬(x.pos=ah b i∨(i=0∧x.pos<ah b 0)∨(i+1=b.sup.length∧ah b i<x.pos))):qN b i x=none:=if_neg h
theorem Kg {lo hi d:Int} {left:Bool} {x:LoadT} (h:lo<x.pos∧x.pos<hi) (hd:d=if left then hi-x.pos else x.pos-lo):gp lo hi left x=some (Zu (hi-lo) [x.wt,d]):=by
 unfold gp;rw[if_neg (by omega),hd]
theorem Kh {lo hi:Int} {left:Bool} {x:LoadT} (h:¬(lo<x.pos∧x.pos<hi)):gp lo hi left x=none:=if_pos (by omega)
def jo (b:BeamT) (lo hi:Int) (left:Bool) (s:Rat) (k:Nat):Rat:=az b (gp lo hi left) (s+Zu 2000 [b.even,hi-lo]) k
theorem ZP (b:BeamT) (lo hi:Int) (left:Bool) (m k s:Rat):jo b lo hi left s b.loads.length+(k-m)*Zu (hi-lo) [1]=Dk b lo hi left m k s:=rfl
def OutQ (w:World) (Bo:Nat) (v:Value) (i:Nat) (f:Nat→Rat) (K:Nat):Prop:=∃es:List E4,es.length=i∧w.ownsRow Bo 193 4 v i (es.flatMap E4.cells)∧∀j (hj:j<es.length),ExqAt w w.heap.size es[j].val (f j) K
theorem OutQ.nil (w:World) (Bo:Nat) (f:Nat→Rat) (K:Nat):OutQ w Bo (.slice none 0 0) 0 f K:=⟨[],rfl,yJ _ _ _ _,fun j hj=>by cases hj⟩
theorem OutQ.grow {w w':World} {Bo i K:Nat} {v:Value} {f:Nat→Rat} (h:OutQ w Bo v i f K) (hb:Below w.heap.size w w'):OutQ w' Bo v i f K:=by
 obtain⟨es,h1,h2,h3⟩:=h;exact⟨es,h1,qA h2 hb,fun j hj=>(h3 j hj).grow hb⟩
theorem OutQ.far4 {w:World} {Bo i K D o:Nat} {v:Value} {f:Nat→Rat} (h:OutQ w Bo v i f K) (hn:v.ownBlock≠some D) (hk:rj w D o) (x0 x1 x2 x3:Value) :
  OutQ ((((w.setCell ⟨D,o,none⟩ x0).setCell ⟨D,o+1,none⟩ x1).setCell ⟨D,o+2,none⟩ x2).setCell ⟨D,o+3,none⟩ x3) Bo v i f K:=by
 obtain⟨es,h1,h2,h3⟩:=h;have st:=fun (w:World) (o:Nat) (u:Value)=>(⟨rfl,rfl,rfl,by simp[World.setCell],fun k _ hk=>Below.heap_setCell w ⟨D,o,none⟩ u k (fun e=>hk (by rw[e]))⟩:w.grownBy (w.setCell ⟨D,o,none⟩ u) (some D));exact⟨es,h1,(((h2.kept (st _ _ _) (.inr hn)).kept (st _ _ _) (.inr hn)).kept (st _ _ _) (.inr hn)).kept (st _ _ _) (.inr hn),fun j hj=>(h3 j hj).kind hk x0 x1 x2 x3⟩
theorem OutQ.push {w w':World} {Bo i K:Nat} {v v':Value} {f:Nat→Rat} {es:List E4} (h1:es.length=i) (h2:w.ownsRow Bo 193 4 v i (es.flatMap E4.cells)) (h3:∀j (hj:j < es.length),ExqAt w w.heap.size es[j].val (f j) K) {b1:Bool} {A1:Option Addr} {l1 c1:Nat} {b2:Bool} {A2:Option Addr} {l2 c2:Nat} (hE:ExqAt w w.heap.size (.agg (zD b1 A1 l1 c1 b2 A2 l2 c2)) (f i) K)
  (hg:w.grownBy w' v.ownBlock) (ho:w'.ownsRow Bo 193 4 v' (i+1) (es.flatMap E4.cells++[.bool b1,.slice A1 l1 c1,.bool b2,.slice A2 l2 c2])):OutQ w' Bo v' (i+1) f K:=by
 refine⟨es++[⟨b1,A1,l1,c1,b2,A2,l2,c2⟩],by rw[yQ,h1];rfl,?_,fun j hj=>?_⟩
 ·rw[List.flatMap_append];exact ho
 rw[yQ,h1] at hj;by_cases e:j<i
 ·rw[List.getElem_append_left (by omega)];exact (h3 j (by omega)).kept h2 hg (by decide)
 obtain rfl:j=i:=by simp at hj;omega
 rw[List.getElem_append_right (by omega)];simp only[h1,Nat.sub_self,List.getElem_cons_zero];exact hE.kept h2 hg (by decide)
def EqsAt (w:World) (v:Value) (l:List Rat) (K:Nat):Prop:=∃A c,v=.slice A l.length c∧l.length≤c∧c≤maxLen∧∀(_:0<l.length),∃g,A=some ⟨g,0,none⟩∧g<w.heap.size∧∀j (hj:j<l.length),∃b1 A1 l1 c1 b2 A2 l2 c2,w.cell? ⟨g,j*4,none⟩=some (.bool b1)∧w.cell? ⟨g,j*4+1,none⟩=some (.slice A1 l1 c1)∧w.cell? ⟨g,j*4+2,none⟩=some (.bool b2)∧w.cell? ⟨g,j*4+3,none⟩=some (.slice A2 l2 c2) ∧
  ExqAt w w.heap.size (.agg (zD b1 A1 l1 c1 b2 A2 l2 c2)) l[j] K
theorem OutQ.eqs {w:World} {Bo n K:Nat} {v:Value} {f:Nat→Rat} (h:OutQ w Bo v n f K):EqsAt w v ((List.range n).map f) K:=by
 obtain⟨es,h1,h2,h3⟩:=h;unfold EqsAt;simp only[List.length_map,List.length_range];rcases h2.2 with⟨rfl,rfl⟩|⟨g,cap,cur,rfl,hb,hg,hn,hc,hs,ht⟩
 ·exact⟨none,0,rfl,yA _,yI _,fun h=>by omega⟩
 refine⟨_,cap,rfl,hn,hc,fun _=>⟨g,rfl,(Array.getElem?_eq_some_iff.1 hg).1,fun j hj=>?_⟩⟩;have k:=fun (m:Nat) (hm:m<4)=>(cell_of_row w g (j*4+m) cur _ (0,0) hg).trans (show cur[j*4+m]?=es[j].cells[m]? by
  rw[←yo es j m (by omega) hm,←ht,List.getElem?_take,if_pos (by omega),Array.getElem?_toList])
 refine⟨_,_,_,_,_,_,_,_,k 0 (by decide),k 1 (by decide),k 2 (by decide),k 3 (by decide),?_⟩;simp only[List.getElem_map,List.getElem_range];exact h3 j (by omega)
theorem EqRow.eqs {w:World} {g n K:Nat} {f:Nat→Rat} (h:EqRow w g n (fun j=>some (f j)) K) (hn:n≤maxLen):EqsAt w (.slice (some ⟨g,0,none⟩) n n) ((List.range n).map f) K:=by
 unfold EqsAt;simp only[List.length_map,List.length_range];refine⟨_,n,rfl,yA _,hn,fun _=>⟨g,rfl,h.lt,fun j hj=>?_⟩⟩;obtain⟨b1,A1,l1,c1,b2,A2,l2,c2,k0,k1,k2,k3,kE⟩:=h.read hj;refine⟨b1,A1,l1,c1,b2,A2,l2,c2,k0,k1,k2,k3,?_⟩;simp only[List.getElem_map,List.getElem_range];exact kE _ rfl
theorem EqsAt.grow {w w':World} {v:Value} {l:List Rat} {K:Nat} (h:EqsAt w v l K) (hb:Below w.heap.size w w'):EqsAt w' v l K:=by
 obtain⟨A,c,h1,h2,h3,h4⟩:=h;refine⟨A,c,h1,h2,h3,fun h0=>?_⟩;obtain⟨g,e,ao,hc⟩:=h4 h0;refine⟨g,e,yK ao hb.size,fun j hj=>?_⟩;obtain⟨b1,A1,l1,c1,b2,A2,l2,c2,k0,k1,k2,k3,kE⟩:=hc j hj;exact⟨b1,A1,l1,c1,b2,A2,l2,c2,(hb.cell (p:=⟨g,j*4,none⟩) ao).trans k0,(hb.cell (p:=⟨g,j*4+1,none⟩) ao).trans k1,(hb.cell (p:=⟨g,j*4+2,none⟩) ao).trans k2,(hb.cell (p:=⟨g,j*4+3,none⟩) ao).trans k3,kE.grow hb⟩
structure RcQ (w W:World) (b:BeamT) (bx:Array Value) (gm Bo:Nat) (vo:Value) (i:Nat):Prop where
 bm:Blk W w.heap.size 43 bx
 m:EqRow W gm b.sup.length (fun j=>some (Zx b j)) 67530
 o:OutQ W Bo vo i (N5 b) 280000
 bel:Below w.heap.size w W
 gl:gm<Bo
 wl:w.heap.size<Bo
 bl:Bo≤W.heap.size
theorem RcQ.grow {w W W':World} {b:BeamT} {bx:Array Value} {gm Bo i:Nat} {vo:Value} (h:RcQ w W b bx gm Bo vo i) (hb:Below W.heap.size W W'):RcQ w W' b bx gm Bo vo i :=
 ⟨h.bm.below hb h.bm.lt,h.m.grow hb,h.o.grow hb,h.bel.trans (hb.mono h.bel.size),h.gl,h.wl,yH h.bl hb.size⟩
theorem RcQ.push {w W W':World} {b:BeamT} {bx:Array Value} {gm Bo i:Nat} {vo v':Value} (h:RcQ w W b bx gm Bo vo i) {es:List E4} (h1:es.length=i) (h2:W.ownsRow Bo 193 4 vo i (es.flatMap E4.cells)) (h3:∀j (hj:j < es.length),ExqAt W W.heap.size es[j].val (N5 b j) 280000) {b1:Bool} {A1:Option Addr} {l1 c1:Nat} {b2:Bool} {A2:Option Addr} {l2 c2:Nat} (hE:ExqAt W W.heap.size (.agg (zD b1 A1 l1 c1 b2 A2 l2 c2)) (N5 b i) 280000)
  (hg:W.grownBy W' vo.ownBlock) (ho:W'.ownsRow Bo 193 4 v' (i+1) (es.flatMap E4.cells++[.bool b1,.slice A1 l1 c1,.bool b2,.slice A2 l2 c2])):RcQ w W' b bx gm Bo v' (i+1):=by
 have dL:∀k,vo.ownBlock=some k→Bo≤k:=fun k e=>(h2.lt k e).1;refine⟨h.bm.kept hg (h.bm.ne_own h2 (by decide)),?_,OutQ.push h1 h2 h3 hE hg ho,h.bel.grown hg h.bel.size (fun k e=>yH (YG h.wl) (dL k e)),h.gl,h.wl,yH h.bl hg.size⟩;obtain⟨ms,m1,m2,m3⟩:=h.m;exact⟨ms,m1,m2.kept hg (fun e=>by have:=dL _ e.symm;have:=h.gl;omega),fun j hj q hq=>(m3 j hj q hq).kept h2 hg (by decide)⟩
structure RcI (w W:World) (b:BeamT) (bx:Array Value) (gm Bo:Nat) (vo:Value) (i g8:Nat) (q:Rat) (K:Nat):Prop where
 st:RcQ w W b bx gm Bo vo i
 sum:EqBox W g8 q K
 ne:vo.ownBlock≠some g8
 far:Bo≤g8
section
variable {w W W':World} {b:BeamT} {bx:Array Value} {gm Bo i g8:Nat} {vo:Value} {q:Rat} {K:Nat}
theorem RcI.grow (h:RcI w W b bx gm Bo vo i g8 q K) (hb:Below W.heap.size W W'):RcI w W' b bx gm Bo vo i g8 q K :=
 ⟨h.st.grow hb,h.sum.grow hb,h.ne,h.far⟩
theorem RcI.more (h:RcI w W b bx gm Bo vo i g8 q K) {K':Nat} (hK:K≤K'):RcI w W b bx gm Bo vo i g8 q K':=⟨h.st,h.sum.more hK,h.ne,h.far⟩
theorem RcI.is (h:RcI w W b bx gm Bo vo i g8 q K) {q':Rat} (e:q=q'):RcI w W b bx gm Bo vo i g8 q' K:=by
 subst e;exact h
variable {b1:Bool} {A1:Option Addr} {l1 c1:Nat} {b2:Bool} {A2:Option Addr} {l2 c2:Nat} {q':Rat} {K':Nat}
theorem RcI.put (h:RcI w W b bx gm Bo vo i g8 q K) (hE:ExqAt W W.heap.size (.agg (zD b1 A1 l1 c1 b2 A2 l2 c2)) q' K') :
  RcI w ((((W.setCell ⟨g8,0,none⟩ (.bool b1)).setCell ⟨g8,1,none⟩ (.slice A1 l1 c1)).setCell ⟨g8,2,none⟩ (.bool b2)).setCell ⟨g8,3,none⟩ (.slice A2 l2 c2)) b bx gm Bo vo i g8 q' K':=by
 have h1:=h.far;have h2:=h.st.gl;have h3:=h.st.wl;have hk:=h.sum.kind;exact⟨⟨h.st.bm.far4o (by omega) 0 _ _ _ _,h.st.m.far4 (by omega) hk _ _ _ _,h.st.o.far4 h.ne hk _ _ _ _,dH h.st.bel (by omega) 0 _ _ _ _,h2,h3,by have:=h.st.bl;simpa[World.setCell] using this⟩,h.sum.put hE,h.ne,h1⟩
theorem RcI.start (h:RcQ w W b bx gm Bo vo i) (hE:ExqAt W W.heap.size (.agg (zD b1 A1 l1 c1 b2 A2 l2 c2)) q K) :
  RcI w (W.alloc (.cells (zD b1 A1 l1 c1 b2 A2 l2 c2) 193)) b bx gm Bo vo i W.heap.size q K:=by
 refine⟨h.grow ((yB _ _).alloc (yA _) _),EqBox.new hE,fun e=>?_,h.bl⟩;obtain⟨es,-,h2,-⟩:=h.o;exact absurd (h2.lt _ e).2 (Nat.lt_irrefl _)
end
