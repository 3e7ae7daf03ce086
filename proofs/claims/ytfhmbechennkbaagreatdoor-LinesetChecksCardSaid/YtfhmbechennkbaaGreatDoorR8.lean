/- Parts of the proof, laid into one text: RgZ, RgRe. -/
import Derived.Deep.DeepCutAuto
import Derived.Test.YtfhmbechennkbaaGreatDoorC6
import Derived.Test.YtfhmbechennkbaaGreatDoorR7
namespace Go.Proofs.YtfhmbechennkbaaGreatDoor
set_option maxRecDepth 100000
set_option maxHeartbeats 40000000
open Go.RowKit Go.Shelf
theorem low_le {w0 w:World} {v:Value} {q:Rat} {K:Nat} {e:Ending} {w':World} (hv:ExqAt w0 w0.heap.size v q K) (h:LowPost w q e w'):ExqPost w q K e w':=by
 obtain ⟨s1,v1,s2,v2,N,D,-,h1,h2,h3,h4,h5,rfl⟩:=hv
 obtain ⟨e1,e2⟩:=low_num (n:=N) (d:=D) (by omega)
 refine low_exq h ?_ ?_
 ·rw [e1]
  exact Nat.le_trans (dlen_mono (Nat.div_le_self _ _)) h4
 ·rw [e2]
  exact Nat.le_trans (dlen_mono (Nat.div_le_self _ _)) h5
theorem rgLowerK (v:Value) (x:Rat) (K:Nat) (w:World) (hv:ExqAt w w.heap.size v x K) (hK:K≤300000):Calls Tryz.prog 137 #[v] w (ExqPost w x K) :=
 (rgLower v x K w hv hK).mono fun _ _ h => low_le hv h
theorem over_one {b:BeamT} {f:LoadT→Option Rat} {s y:Rat} {k:Nat} (hk:k<b.loads.length) (h:f b.loads[k]=some y):overLoads b f s (k+1)=overLoads b f s k+y:=by
 rw [Zl hk,h]
theorem over_none {b:BeamT} {f:LoadT→Option Rat} {s:Rat} {k:Nat} (hk:k<b.loads.length) (h:f b.loads[k]=none):overLoads b f s (k+1)=overLoads b f s k:=by
 rw [Zl hk,h]
theorem end_some (b:BeamT) (i:Nat) (x:LoadT) (h:x.pos=supAt b i∨(i=0∧x.pos<supAt b 0)∨(i+1=b.sup.length∧supAt b i<x.pos)):endF b i x=some (Zu 1 [x.wt]):=by
 unfold endF
 rw [if_pos h,prod_one]
theorem end_none (b:BeamT) (i:Nat) (x:LoadT) (h:¬ (x.pos=supAt b i∨(i=0∧x.pos<supAt b 0)∨(i+1=b.sup.length∧supAt b i<x.pos))):endF b i x=none:=if_neg h
theorem lever_some {lo hi d:Int} {left:Bool} {x:LoadT} (h:lo<x.pos∧x.pos<hi) (hd:d=if left then hi-x.pos else x.pos-lo):leverF lo hi left x=some (Zu (hi-lo) [x.wt,d]):=by
 unfold leverF
 rw [if_neg (by omega),hd]
theorem lever_none {lo hi:Int} {left:Bool} {x:LoadT} (h:¬ (lo<x.pos∧x.pos<hi)):leverF lo hi left x=none:=if_pos (by omega)
def armTo (b:BeamT) (lo hi:Int) (left:Bool) (s:Rat) (k:Nat):Rat:=overLoads b (leverF lo hi left) (s+Zu 2000 [b.even,hi-lo]) k
theorem arm_end (b:BeamT) (lo hi:Int) (left:Bool) (m k s:Rat):armTo b lo hi left s b.loads.length+(k-m)*Zu (hi-lo) [1]=armR b lo hi left m k s:=rfl
def OutQ (w:World) (Bo:Nat) (v:Value) (i:Nat) (f:Nat→Rat) (K:Nat):Prop:=∃ es:List E4,es.length=i∧w.ownsRow Bo 175 4 v i (es.flatMap E4.cells)∧∀ j (hj:j<es.length),ExqAt w w.heap.size es[j].val (f j) K
theorem OutQ.nil (w:World) (Bo:Nat) (f:Nat→Rat) (K:Nat):OutQ w Bo (.slice none 0 0) 0 f K:=⟨[],rfl,World.ownsRow_nil _ _ _ _,fun j hj => by cases hj⟩
theorem OutQ.grow {w w':World} {Bo i K:Nat} {v:Value} {f:Nat→Rat} (h:OutQ w Bo v i f K) (hb:Below w.heap.size w w'):OutQ w' Bo v i f K:=by
 obtain ⟨es,h1,h2,h3⟩:=h
 exact ⟨es,h1,ownF_below h2 hb,fun j hj => (h3 j hj).grow hb⟩
theorem OutQ.far4 {w:World} {Bo i K D o:Nat} {v:Value} {f:Nat→Rat} (h:OutQ w Bo v i f K) (hn:v.ownBlock≠some D) (hk:xKind w D o) (x0 x1 x2 x3:Value) :
  OutQ ((((w.setCell ⟨D,o,none⟩ x0).setCell ⟨D,o+1,none⟩ x1).setCell ⟨D,o+2,none⟩ x2).setCell ⟨D,o+3,none⟩ x3) Bo v i f K:=by
 obtain ⟨es,h1,h2,h3⟩:=h
 have st:=fun (w:World) (o:Nat) (u:Value) => (⟨rfl,rfl,rfl,by simp [World.setCell],fun k _ hk => Below.heap_setCell w ⟨D,o,none⟩ u k (fun e => hk (by rw [e]))⟩:w.grownBy (w.setCell ⟨D,o,none⟩ u) (some D))
 exact ⟨es,h1,(((h2.kept (st _ _ _) (.inr hn)).kept (st _ _ _) (.inr hn)).kept (st _ _ _) (.inr hn)).kept (st _ _ _) (.inr hn),fun j hj => (h3 j hj).kind hk x0 x1 x2 x3⟩
theorem OutQ.push {w w' : World} {Bo i K : Nat} {v v' : Value} {f : Nat → Rat} {es : List E4} (h1 : es.length = i) (h2 : w.ownsRow Bo 175 4 v i (es.flatMap E4.cells)) (h3 : ∀ j (hj : j < es.length),ExqAt w w.heap.size es[j].val (f j) K) {b1 : Bool} {A1 : Option Addr} {l1 c1 : Nat} {b2 : Bool} {A2 : Option Addr} {l2 c2 : Nat} (hE : ExqAt w w.heap.size (.agg #[.bool b1,.slice A1 l1 c1,.bool b2,.slice A2 l2 c2]) (f i) K)
  (hg:w.grownBy w' v.ownBlock) (ho:w'.ownsRow Bo 175 4 v' (i+1) (es.flatMap E4.cells ++ [.bool b1,.slice A1 l1 c1,.bool b2,.slice A2 l2 c2])):OutQ w' Bo v' (i+1) f K:=by
 refine ⟨es ++ [⟨b1,A1,l1,c1,b2,A2,l2,c2⟩],by rw [List.length_append,h1];rfl,?_,fun j hj => ?_⟩
 ·rw [List.flatMap_append]
  exact ho
 ·rw [List.length_append,h1] at hj
  by_cases e:j<i
  ·rw [List.getElem_append_left (by omega)]
   exact (h3 j (by omega)).kept h2 hg (by decide)
  ·obtain rfl:j=i:=by simp at hj;omega
   rw [List.getElem_append_right (by omega)]
   simp only [h1,Nat.sub_self,List.getElem_cons_zero]
   exact hE.kept h2 hg (by decide)
def EqsAt (w:World) (v:Value) (l:List Rat) (K:Nat):Prop:=∃ A c,v = .slice A l.length c∧l.length≤c∧c≤maxLen∧∀ (_:0<l.length),∃ g,A=some ⟨g,0,none⟩∧g<w.heap.size∧∀ j (hj:j<l.length),∃ b1 A1 l1 c1 b2 A2 l2 c2,w.cell? ⟨g,j*4,none⟩=some (.bool b1)∧w.cell? ⟨g,j*4+1,none⟩=some (.slice A1 l1 c1)∧w.cell? ⟨g,j*4+2,none⟩=some (.bool b2)∧w.cell? ⟨g,j*4+3,none⟩=some (.slice A2 l2 c2) ∧
  ExqAt w w.heap.size (.agg #[.bool b1,.slice A1 l1 c1,.bool b2,.slice A2 l2 c2]) l[j] K
theorem OutQ.eqs {w:World} {Bo n K:Nat} {v:Value} {f:Nat→Rat} (h:OutQ w Bo v n f K):EqsAt w v ((List.range n).map f) K:=by
 obtain ⟨es,h1,h2,h3⟩:=h
 unfold EqsAt
 simp only [List.length_map,List.length_range]
 rcases h2.2 with ⟨rfl,rfl⟩ | ⟨g,cap,cur,rfl,hb,hg,hn,hc,hs,ht⟩
 ·exact ⟨none,0,rfl,Nat.le_refl _,Nat.zero_le _,fun h => by omega⟩
 ·refine ⟨_,cap,rfl,hn,hc,fun _ => ⟨g,rfl,(Array.getElem?_eq_some_iff.1 hg).1,fun j hj => ?_⟩⟩
  have k:=fun (m:Nat) (hm:m<4) => (cell_of_row w g (j*4+m) cur _ (0,0) hg).trans (show cur[j*4+m]? = es[j].cells[m]? by
   rw [← e4_get es j m (by omega) hm,← ht,List.getElem?_take,if_pos (by omega),Array.getElem?_toList])
  refine ⟨_,_,_,_,_,_,_,_,k 0 (by decide),k 1 (by decide),k 2 (by decide),k 3 (by decide),?_⟩
  simp only [List.getElem_map,List.getElem_range]
  exact h3 j (by omega)
theorem EqRow.eqs {w:World} {g n K:Nat} {f:Nat→Rat} (h:EqRow w g n (fun j => some (f j)) K) (hn:n≤maxLen):EqsAt w (.slice (some ⟨g,0,none⟩) n n) ((List.range n).map f) K:=by
 unfold EqsAt
 simp only [List.length_map,List.length_range]
 refine ⟨_,n,rfl,Nat.le_refl _,hn,fun _ => ⟨g,rfl,h.lt,fun j hj => ?_⟩⟩
 obtain ⟨b1,A1,l1,c1,b2,A2,l2,c2,k0,k1,k2,k3,kE⟩:=h.read hj
 refine ⟨b1,A1,l1,c1,b2,A2,l2,c2,k0,k1,k2,k3,?_⟩
 simp only [List.getElem_map,List.getElem_range]
 exact kE _ rfl
theorem EqsAt.grow {w w':World} {v:Value} {l:List Rat} {K:Nat} (h:EqsAt w v l K) (hb:Below w.heap.size w w'):EqsAt w' v l K:=by
 obtain ⟨A,c,h1,h2,h3,h4⟩:=h
 refine ⟨A,c,h1,h2,h3,fun h0 => ?_⟩
 obtain ⟨g,e,hlt,hc⟩:=h4 h0
 refine ⟨g,e,Nat.lt_of_lt_of_le hlt hb.size,fun j hj => ?_⟩
 obtain ⟨b1,A1,l1,c1,b2,A2,l2,c2,k0,k1,k2,k3,kE⟩:=hc j hj
 exact ⟨b1,A1,l1,c1,b2,A2,l2,c2,(hb.cell (p:=⟨g,j*4,none⟩) hlt).trans k0,(hb.cell (p:=⟨g,j*4+1,none⟩) hlt).trans k1,(hb.cell (p:=⟨g,j*4+2,none⟩) hlt).trans k2,(hb.cell (p:=⟨g,j*4+3,none⟩) hlt).trans k3,kE.grow hb⟩
structure RcQ (w W:World) (b:BeamT) (bx:Array Value) (gm Bo:Nat) (vo:Value) (i:Nat):Prop where
 bm:Blk W w.heap.size 122 bx
 m:EqRow W gm b.sup.length (fun j => some (Zx b j)) 67530
 out:OutQ W Bo vo i (re5 b) 280000
 bel:Below w.heap.size w W
 gl:gm<Bo
 wl:w.heap.size<Bo
 bl:Bo≤W.heap.size
theorem RcQ.grow {w W W':World} {b:BeamT} {bx:Array Value} {gm Bo i:Nat} {vo:Value} (h:RcQ w W b bx gm Bo vo i) (hb:Below W.heap.size W W'):RcQ w W' b bx gm Bo vo i :=
 ⟨h.bm.below hb h.bm.lt,h.m.grow hb,h.out.grow hb,h.bel.trans (hb.mono h.bel.size),h.gl,h.wl,Nat.le_trans h.bl hb.size⟩
theorem RcQ.push {w W W' : World} {b : BeamT} {bx : Array Value} {gm Bo i : Nat} {vo v' : Value} (h : RcQ w W b bx gm Bo vo i) {es : List E4} (h1 : es.length = i) (h2 : W.ownsRow Bo 175 4 vo i (es.flatMap E4.cells)) (h3 : ∀ j (hj : j < es.length),ExqAt W W.heap.size es[j].val (re5 b j) 280000) {b1 : Bool} {A1 : Option Addr} {l1 c1 : Nat} {b2 : Bool} {A2 : Option Addr} {l2 c2 : Nat} (hE : ExqAt W W.heap.size (.agg #[.bool b1,.slice A1 l1 c1,.bool b2,.slice A2 l2 c2]) (re5 b i) 280000)
  (hg:W.grownBy W' vo.ownBlock) (ho:W'.ownsRow Bo 175 4 v' (i+1) (es.flatMap E4.cells ++ [.bool b1,.slice A1 l1 c1,.bool b2,.slice A2 l2 c2])):RcQ w W' b bx gm Bo v' (i+1):=by
 have hne:∀ k,vo.ownBlock=some k→Bo≤k:=fun k e => (h2.lt k e).1
 refine ⟨h.bm.kept hg (h.bm.ne_own h2 (by decide)),?_,OutQ.push h1 h2 h3 hE hg ho,h.bel.grown hg h.bel.size (fun k e => Nat.le_trans (Nat.le_of_lt h.wl) (hne k e)),h.gl,h.wl,Nat.le_trans h.bl hg.size⟩
 obtain ⟨ms,m1,m2,m3⟩:=h.m
 exact ⟨ms,m1,m2.kept hg (fun e => by have:=hne _ e.symm;have:=h.gl;omega),fun j hj q hq => (m3 j hj q hq).kept h2 hg (by decide)⟩
structure RcI (w W:World) (b:BeamT) (bx:Array Value) (gm Bo:Nat) (vo:Value) (i g8:Nat) (q:Rat) (K:Nat):Prop where
 st:RcQ w W b bx gm Bo vo i
 sum:EqBox W g8 q K
 ne:vo.ownBlock≠some g8
 far:Bo≤g8
section
variable {w W W':World} {b:BeamT} {bx:Array Value} {gm Bo i g8:Nat} {vo:Value} {q:Rat} {K:Nat}
theorem RcI.grow (h:RcI w W b bx gm Bo vo i g8 q K) (hb:Below W.heap.size W W'):RcI w W' b bx gm Bo vo i g8 q K :=
 ⟨h.st.grow hb,h.sum.grow hb,h.ne,h.far⟩
theorem RcI.more (h:RcI w W b bx gm Bo vo i g8 q K) {K':Nat} (hK:K≤K'):RcI w W b bx gm Bo vo i g8 q K':=⟨h.st,h.sum.more hK,h.ne,h.far⟩
theorem RcI.is (h:RcI w W b bx gm Bo vo i g8 q K) {q':Rat} (e:q=q'):RcI w W b bx gm Bo vo i g8 q' K:=by
 subst e
 exact h
variable {b1:Bool} {A1:Option Addr} {l1 c1:Nat} {b2:Bool} {A2:Option Addr} {l2 c2:Nat} {q':Rat} {K':Nat}
theorem RcI.put (h:RcI w W b bx gm Bo vo i g8 q K) (hE:ExqAt W W.heap.size (.agg #[.bool b1,.slice A1 l1 c1,.bool b2,.slice A2 l2 c2]) q' K') :
  RcI w ((((W.setCell ⟨g8,0,none⟩ (.bool b1)).setCell ⟨g8,1,none⟩ (.slice A1 l1 c1)).setCell ⟨g8,2,none⟩ (.bool b2)).setCell ⟨g8,3,none⟩ (.slice A2 l2 c2)) b bx gm Bo vo i g8 q' K':=by
 have h1:=h.far
 have h2:=h.st.gl
 have h3:=h.st.wl
 have hk:=h.sum.kind
 exact ⟨⟨h.st.bm.far4o (by omega) 0 _ _ _ _,h.st.m.far4 (by omega) hk _ _ _ _,h.st.out.far4 h.ne hk _ _ _ _,below_set4 h.st.bel (by omega) 0 _ _ _ _,h2,h3,by have:=h.st.bl;simpa [World.setCell] using this⟩,h.sum.put hE,h.ne,h1⟩
theorem RcI.start (h:RcQ w W b bx gm Bo vo i) (hE:ExqAt W W.heap.size (.agg #[.bool b1,.slice A1 l1 c1,.bool b2,.slice A2 l2 c2]) q K) :
  RcI w (W.alloc (.cells #[.bool b1,.slice A1 l1 c1,.bool b2,.slice A2 l2 c2] 175)) b bx gm Bo vo i W.heap.size q K:=by
 refine ⟨h.grow ((Below.refl _ _).alloc (Nat.le_refl _) _),EqBox.new hE,fun e => ?_,h.bl⟩
 obtain ⟨es,-,h2,-⟩:=h.out
 exact absurd (h2.lt _ e).2 (Nat.lt_irrefl _)
end
def RcQPost (b:BeamT) (w:World) (e:Ending) (w':World):Prop:=Below w.heap.size w w'∧∃ v,e = .returned v∧EqsAt w' v (reactL b) 280000
def sideQ (b:BeamT) (i s:Nat):Rat:=if s=0 then re3 b i else if s=1 then re4 b i else re5 b i
theorem rgReactions (v:Value) (b:BeamT) (w:World) (hv:BeamAt w w.heap.size v b) (hb:BeamOk b) (ht:tiltOk b=true) (hT:∀ (u:Value) (w1:World),BeamAt w1 w1.heap.size u b→Calls Tryz.prog 204 #[u] w1 (TurnedPost b w1)) :
  Calls Tryz.prog 87 #[v] w (RcQPost b w):=by
 have HV0:=hv
 obtain ⟨As,cs,Al,cl,rfl,hS,hL⟩:=hv
 obtain ⟨_,_,e,_,hcs,hSc⟩:=hS.open_
 injection e with e1 _ e2
 subst e1 e2
 obtain ⟨_,_,e,_,hcl,hLc⟩:=hL.open_
 injection e with e1 _ e2
 subst e1 e2
 have h1:=hb.sup1
 have h4:=hb.sup 0 h1.1
 unfold maxLen at hcs hcl
 obtain ⟨bs,os,rfl,hbs,hSx⟩:=hSc 0 h1.1
 have HSx:Hid (∀ j,j<b.sup.length→w.cell? ⟨bs,os+j,none⟩=some (.int .i64 (supAt b j))):=fun j hj => by
  have h:=hSx j hj
  unfold supAt
  rw [List.getD_eq_getElem?_getD,List.getElem?_eq_getElem hj]
  exact h
 have HLc:=zh hLc
 have Hb:=zh hb
 have HTi:=zh ht
 have HT:=zh hT
 obtain ⟨h51,h52⟩:=hb.len
 obtain ⟨h31,h32⟩:=hb.even
 have h2:=hb.loads1
 have HbW:=zh ((Below.refl _ w).alloc (Nat.le_refl _) (.cells #[.string b.name,.int .i64 b.len,.slice (some ⟨bs,os,none⟩) b.sup.length cs,.slice Al b.loads.length cl,.int .i64 b.even] 122))
 have HV:=zh (HV0.grow HbW.out)
 have HB1:=zh (Blk.new w 122 #[.string b.name,.int .i64 b.len,.slice (some ⟨bs,os,none⟩) b.sup.length cs,.slice Al b.loads.length cl,.int .i64 b.even])
 have s0:(0:Int)<(b.sup.length:Int):=by omega
 obtain ⟨s3,s1⟩:=h1
 clear hSc hLc hb hS hL hT HV0 h4 hSx ht
 go_enter Tryz.func87,Tryz.ntmps87
 go_upto_region 1 with fail
 generalize w.alloc (.cells #[.string b.name,.int .i64 b.len,.slice (some ⟨bs,os,none⟩) b.sup.length cs,.slice Al b.loads.length cl,.int .i64 b.even] 122)=W1 at *
 have y0:=HB1.out.cell 0
 have y1:=HB1.out.cell 1
 have y2:=HB1.out.cell 2
 have y3:=HB1.out.cell 3
 have y4:=HB1.out.cell 4
 simp only [zq1,zq2,zq3] at y0 y1 y2 y3 y4
 go_wp2_with fail
 refine (rgMoments _ b W1 HV.out Hb.out HTi.out HT.out).mono ?_
 rintro e w3 ⟨hb3,gm,rfl,hrow⟩
 have HQ:Hid (RcQ w w3 b #[.string b.name,.int .i64 b.len,.slice (some ⟨bs,os,none⟩) b.sup.length cs,.slice Al b.loads.length cl,.int .i64 b.even] gm w3.heap.size (.slice none 0 0) 0):=⟨HB1.out.below hb3 HB1.out.lt,hrow,OutQ.nil _ _ _ _,HbW.out.trans (hb3.mono HbW.out.size),hrow.lt,Nat.lt_of_lt_of_le HB1.out.lt hb3.size,Nat.le_refl _⟩
 clear y0 y1 y2 y3 y4 hb3 hrow HB1 HbW HV
 generalize w3.heap.size=Bo at *
 go_wp2_with fail
 go_loopg [6,7] b.sup.length (fun gk vo ix wr => ∃ (i:Nat) (Ao:Option Addr) (co:Nat),gk+i=b.sup.length∧ix = .int .i64 i∧vo = .slice Ao i co∧Hid (RcQ w wr b #[.string b.name,.int .i64 b.len,.slice (some ⟨bs,os,none⟩) b.sup.length cs,.slice Al b.loads.length cl,.int .i64 b.even] gm Bo (.slice Ao i co) i))
 case atStart => exact ⟨0,none,0,rfl,rfl,rfl,HQ⟩
 case round =>
  clear HQ
  obtain ⟨i,Ao,co,hgk,rfl,rfl,HQ⟩:=hrel
  have i0:(0:Int)≤(i:Int):=Int.natCast_nonneg _
  by_cases hil:i<b.sup.length
  ·skip
   have i1:(i:Int)<(b.sup.length:Int):=by omega
   have Hgk:=zh hgk
   clear hgk
   go_wp2_with fail
   refine (rgZero wr).mono ?_
   rintro e w2 ⟨v2,rfl,hb2,hE2⟩
   obtain ⟨xb1,xA1,xl1,xc1,xb2,xA2,xl2,xc2,_,_,rfl,-⟩:=exq_form hE2
   have HI:=zh (RcI.start (HQ.out.grow hb2) hE2)
   have HH:Hid (overLoads b (endF b i) 0 0=0):=rfl
   rw [← HH.out] at HI
   clear hE2 hb2 HQ HH
   go_upto_region 10 with fail
   generalize w2.alloc (.cells #[.bool xb1,.slice xA1 xl1 xc1,.bool xb2,.slice xA2 xl2 xc2] 175)=W2 at *
   generalize w2.heap.size=g8 at *
   have HI0:Hid (RcI w W2 b #[.string b.name,.int .i64 b.len,.slice (some ⟨bs,os,none⟩) b.sup.length cs,.slice Al b.loads.length cl,.int .i64 b.even] gm Bo (.slice Ao i co) i g8 (overLoads b (endF b i) 0 0) (30+31*0)):=HI
   clear HI
   go_loopg [9] b.loads.length (fun hk kx wr => ∃ k:Nat,hk+k=b.loads.length∧kx = .int .i64 k∧Hid (RcI w wr b #[.string b.name,.int .i64 b.len,.slice (some ⟨bs,os,none⟩) b.sup.length cs,.slice Al b.loads.length cl,.int .i64 b.even] gm Bo (.slice Ao i co) i g8 (overLoads b (endF b i) 0 k) (30+31*k)))
   case atStart => exact ⟨0,rfl,rfl,HI0⟩
   case round =>
    clear HI0
    obtain ⟨k,hgh,rfl,HI⟩:=hrel
    have k0:(0:Int)≤(k:Int):=Int.natCast_nonneg _
    by_cases hkl:k<b.loads.length
    ·skip
     have k1:(k:Int)<(b.loads.length:Int):=by omega
     have Hgh:=zh hgh
     clear hgh
     obtain ⟨bl,ol,rfl,hlt,hcl⟩:=HLc.out k hkl
     obtain ⟨hx1,hx2⟩:=hcl k hkl
     have Hx2:Hid (w.cell? ⟨bl,ol+k*2+1,none⟩=some (.int .i64 b.loads[k].wt)):=hx2
     have hx1:=(HI.out.st.bel.cell (p:=⟨bl,ol+k*2,none⟩) hlt).trans hx1
     have hx2:=(HI.out.st.bel.cell (p:=⟨bl,ol+k*2+1,none⟩) hlt).trans hx2
     have z0:=(HI.out.st.bel.cell (p:=⟨bs,os+0,none⟩) hbs).trans (HSx.out 0 (by omega))
     have z1:=(HI.out.st.bel.cell (p:=⟨bs,os+i,none⟩) hbs).trans (HSx.out i hil)
     have z2:=(HI.out.st.bel.cell (p:=⟨bs,os+(b.sup.length-1),none⟩) hbs).trans (HSx.out (b.sup.length-1) (by omega))
     rw [Nat.add_zero] at z0
     obtain ⟨p1,p2,p3,p4⟩:=Hb.out.loads _ (List.getElem_mem hkl)
     have HOn:=zh (fun y => over_one (b:=b) (f:=endF b i) (s:=0) (y:=y) hkl)
     have HNo:=zh (over_none (b:=b) (f:=endF b i) (s:=0) hkl)
     have HEs:=zh (end_some b i b.loads[k])
     have HEn:=zh (end_none b i b.loads[k])
     have hl0:i+1=b.sup.length→supAt b (b.sup.length-1)=supAt b i:=fun h => by rw [← h];rfl
     have hl1:i=0→supAt b 0=supAt b i:=fun h => by rw [h]
     clear hcl
     generalize b.loads[k]=x at *
     obtain ⟨pos,wt⟩:=x
     simp only at hx1 hx2 p1 p2 p3 p4 HEs HEn Hx2
     generalize hsf:supAt b 0=sf at *
     generalize hsq:supAt b i=sq at *
     generalize hsl:supAt b (b.sup.length-1)=sl at *
     have j0:(0:Int)≤(b.sup.length:Int)-1:=by omega
     have j1:(b.sup.length:Int)-1<(b.sup.length:Int):=by omega
     have j2:((b.sup.length:Int)-1).toNat=b.sup.length-1:=by omega
     have j5:IntKind.i64.wrap ((b.sup.length:Int)-1)=(b.sup.length:Int)-1:=IntWalk.i64_in _ (by omega)
     have c3:=HI.out.st.bm.cell 3
     simp only [zq1,zq2,zq3] at c3
     go_upto_region 13 with fail
     go_cut [75] from 44 to 75 (fun s wx => s = .bool (decide (pos=sq∨(i=0∧pos<sf)∨(i+1=b.sup.length∧sq<pos)))∧wx=wr)
     case first =>
      by_cases t1:pos=sq
      ·have e1:(pos == sq)=true:=beq_iff_eq.2 t1
       have e9:decide (pos=sq∨(i=0∧pos<sf)∨(i+1=b.sup.length∧sq<pos))=true:=decide_eq_true (.inl t1)
       have E9:=zh e9
       clear e9 t1
       go_wp2_with fail
       go_meet
       exact ⟨congrArg Value.bool E9.out.symm,rfl⟩
      ·have e1:(pos == sq)=false:=beq_eq_false_iff_ne.2 t1
       by_cases t2:i=0
       ·have e2:((i:Int) == 0)=true:=beq_iff_eq.2 (by omega)
        by_cases t3:pos<sf
        ·have e3:decide (pos<sf)=true:=decide_eq_true t3
         have E9:Hid (decide (pos=sq∨(i=0∧pos<sf)∨(i+1=b.sup.length∧sq<pos))=true):=decide_eq_true (.inr (.inl ⟨t2,t3⟩))
         clear t1 t2 t3
         go_wp2_with fail
         go_meet
         exact ⟨congrArg Value.bool E9.out.symm,rfl⟩
        ·have e3:decide (pos<sf)=false:=decide_eq_false t3
         by_cases t4:i+1=b.sup.length
         ·have e4:((i:Int) == (b.sup.length:Int)-1)=true:=beq_iff_eq.2 (by omega)
          have t5:sl<pos:=by have:=hl0 t4;have:=hl1 t2;omega
          have e5:decide (sl<pos)=true:=decide_eq_true t5
          have E9:Hid (decide (pos=sq∨(i=0∧pos<sf)∨(i+1=b.sup.length∧sq<pos))=true):=decide_eq_true (.inr (.inr ⟨t4,by have:=hl0 t4;omega⟩))
          clear t1 t2 t3 t4 t5 hl0 hl1
          go_wp2_with fail
          go_meet
          exact ⟨congrArg Value.bool E9.out.symm,rfl⟩
         ·have e4:((i:Int) == (b.sup.length:Int)-1)=false:=beq_eq_false_iff_ne.2 (by omega)
          have E9:Hid (decide (pos=sq∨(i=0∧pos<sf)∨(i+1=b.sup.length∧sq<pos))=false):=decide_eq_false (fun h => by rcases h with h | h | h <;> omega)
          clear t1 t2 t3 t4 hl0 hl1
          go_wp2_with fail
          go_meet
          exact ⟨congrArg Value.bool E9.out.symm,rfl⟩
       ·have e2:((i:Int) == 0)=false:=beq_eq_false_iff_ne.2 (by omega)
        by_cases t4:i+1=b.sup.length
        ·have e4:((i:Int) == (b.sup.length:Int)-1)=true:=beq_iff_eq.2 (by omega)
         by_cases t5:sl<pos
         ·have e5:decide (sl<pos)=true:=decide_eq_true t5
          have E9:Hid (decide (pos=sq∨(i=0∧pos<sf)∨(i+1=b.sup.length∧sq<pos))=true):=decide_eq_true (.inr (.inr ⟨t4,by have:=hl0 t4;omega⟩))
          clear t1 t2 t4 t5 hl0 hl1
          go_wp2_with fail
          go_meet
          exact ⟨congrArg Value.bool E9.out.symm,rfl⟩
         ·have e5:decide (sl<pos)=false:=decide_eq_false t5
          have E9:Hid (decide (pos=sq∨(i=0∧pos<sf)∨(i+1=b.sup.length∧sq<pos))=false):=decide_eq_false (fun h => by have:=hl0 t4;rcases h with h | h | h <;> omega)
          clear t1 t2 t4 t5 hl0 hl1
          go_wp2_with fail
          go_meet
          exact ⟨congrArg Value.bool E9.out.symm,rfl⟩
        ·have e4:((i:Int) == (b.sup.length:Int)-1)=false:=beq_eq_false_iff_ne.2 (by omega)
         have E9:Hid (decide (pos=sq∨(i=0∧pos<sf)∨(i+1=b.sup.length∧sq<pos))=false):=decide_eq_false (fun h => by rcases h with h | h | h <;> omega)
         clear t1 t2 t4 hl0 hl1
         go_wp2_with fail
         go_meet
         exact ⟨congrArg Value.bool E9.out.symm,rfl⟩
     case rest =>
      obtain ⟨rfl,rfl⟩:=hcut
      clear z0 z1 z2 hl0 hl1 c3
      by_cases hE:pos=sq∨(i=0∧pos<sf)∨(i+1=b.sup.length∧sq<pos)
      ·rw [decide_eq_true hE]
       have HT2:=zh (HOn.out _ (HEs.out hE))
       have hs1:wt.natAbs≤1152921504606846976:=by omega
       clear hE HOn HNo HEs HEn
       obtain ⟨sb1,sA1,sl1,sc1,sb2,sA2,sl2,sc2,hB,hE⟩:=HI.out.sum
       have y0:=hB.cell 0
       have y1:=hB.cell 1
       have y2:=hB.cell 2
       have y3:=hB.cell 3
       simp only [zq1,zq2,zq3] at y0 y1 y2 y3
       have HE:=zh hE
       clear hB hE
       have c3:=HI.out.st.bm.cell 3
       simp only [zq1,zq2,zq3] at c3
       go_upto_region 14 with fail
       have uy0:=HeldB.cell y0
       have uy1:=HeldB.cell y1
       have uy2:=HeldB.cell y2
       have uy3:=HeldB.cell y3
       have uc3:=HeldB.cell c3
       have uhx2:=HeldB.cell hx2
       clear y0 y1 y2 y3 c3 hx2
       refine wp_region_grow 10 (fun jx => if jx=7 then some (gI [wt]) else if jx=8 then some (gEq (Zu 1 [wt]) (30)) else if jx=9 then some (gEq (overLoads b (endF b i) 0 k+Zu 1 [wt]) (30+31*(k+1))) else none) (by kernel_rfl) (by kernel_rfl) ?_
       simp only [zt1,zt2,zt3,zt4]
       refine wpG_quiet 7 (by kernel_rfl) (by rfl) (by decide) ?_
       simp only [zt1,zt2,zt3,zt4]
       repeat (go_big_quiet_step (fail))
       refine wpQuiet_nil ?_
       refine wpG_new rfl rfl (fun w1 hb1 _ => gI_new (T:=3) (l:=[wt]) (Nat.le_of_ble_eq_true rfl) (by go_simp)) ?_
       rintro _ ⟨g83,rfl⟩
       simp only [Act.put,zs1,zs2,zs3]
       refine wpG_call rfl rfl ?_ ?_
       ·intro w1 hb1 hk
        have h83:IntsAt w1 w1.heap.size (.slice (some ⟨g83,0,none⟩) 1 1) [wt]:=hk 83 (of_decide_eq_true (by kernel_rfl))
        have hC:=rgPart 1 _ [wt] w1 h83 (Nat.le_of_ble_eq_true rfl) (tiny1 hs1) (by decide) (by decide)
        exact ⟨134,#[.slice (some ⟨g83,0,none⟩) 1 1,.int .i64 1],by go_simp,Zg hC⟩
       rintro _ ⟨r84b1,r84A1,r84l1,r84c1,r84b2,r84A2,r84l2,r84c2,rfl⟩
       simp only [Act.put,zs1,zs2,zs3]
       refine wpG_call rfl rfl ?_ ?_
       ·intro w1 hb1 hk
        have h84:ExqAt w1 w1.heap.size (.agg #[.bool r84b1,.slice r84A1 r84l1 r84c1,.bool r84b2,.slice r84A2 r84l2 r84c2]) (Zu 1 [wt]) (30):=hk 84 (of_decide_eq_true (by kernel_rfl))
        have hC:=rgEPlus _ _ _ _ (30+31*k) 30 w1 (HE.out.grow hb1) h84 (by omega)
        exact ⟨133,#[.agg #[.bool sb1,.slice sA1 sl1 sc1,.bool sb2,.slice sA2 sl2 sc2],.agg #[.bool r84b1,.slice r84A1 r84l1 r84c1,.bool r84b2,.slice r84A2 r84l2 r84c2]],by go_simp,Zg hC⟩
       rintro _ ⟨r85b1,r85A1,r85l1,r85c1,r85b2,r85A2,r85l2,r85c2,rfl⟩
       simp only [Act.put,zs1,zs2,zs3]
       refine Zc ?_
       intro w8 hb8 hF
       have h26:ExqAt w8 w8.heap.size (.agg #[.bool r85b1,.slice r85A1 r85l1 r85c1,.bool r85b2,.slice r85A2 r85l2 r85c2]) (overLoads b (endF b i) 0 k+Zu 1 [wt]) (30+31*(k+1)):=hF 85
       have HG:=HI.out.grow hb8
       obtain ⟨_,_,_,_,_,_,_,_,hD5,-⟩:=HG.sum
       have HI2:=zh (HG.put h26)
       have q0:=hD5.cell 0
       have q1:=hD5.cell 1
       have q2:=hD5.cell 2
       have q3:=hD5.cell 3
       simp only [zq1,zq2,zq3] at q0 q1 q2 q3
       have fz0:=hD5.frozen (0)
       have fz1:=hD5.frozen (1)
       have fz2:=hD5.frozen (2)
       have fz3:=hD5.frozen (3)
       clear hF h26 hD5 HG hb8 HE HI uy0 uy1 uy2 uy3 uc3 uhx2
       rw [← HT2.out] at HI2
       go_wp2_with fail
       clear q0 q1 q2 q3 fz0 fz1 fz2 fz3 HT2
       go_roundg (b.loads.length-(k+1))
       case rel => exact ⟨k+1,by omega,by go_num,HI2⟩
       case measure => have:=Hgh.out;omega
      ·rw [decide_eq_false hE]
       have HT2:=zh (HNo.out (HEn.out hE))
       have HI2:Hid (RcI w wc b #[.string b.name,.int .i64 b.len,.slice (some ⟨bs,os,none⟩) b.sup.length cs,.slice (some ⟨bl,ol,none⟩) b.loads.length cl,.int .i64 b.even] gm Bo (.slice Ao i co) i g8 (overLoads b (endF b i) 0 (k+1)) (30+31*(k+1))):=by
        rw [HT2.out]
        exact HI.out.more (by omega)
       clear hE HOn HNo HEs HEn HI HT2
       go_wp2_with fail
       go_roundg (b.loads.length-(k+1))
       case rel => exact ⟨k+1,by omega,by go_num,HI2⟩
       case measure => have:=Hgh.out;omega
    ·skip
     obtain rfl:k=b.loads.length:=by omega
     have HI3:Hid (RcI w wr b #[.string b.name,.int .i64 b.len,.slice (some ⟨bs,os,none⟩) b.sup.length cs,.slice Al b.loads.length cl,.int .i64 b.even] gm Bo (.slice Ao i co) i g8 (re1 b i) (1270)):=HI.out.more (by omega)
     have c3:=HI3.out.st.bm.cell 3
     simp only [zq1,zq2,zq3] at c3
     clear HI
     go_upto_if 87 with fail
     clear c3
     go_cut [8] from 87 to 96 (fun s8 wx => s8 = .pointer (some ⟨g8,0,none⟩)∧Hid (RcI w wx b #[.string b.name,.int .i64 b.len,.slice (some ⟨bs,os,none⟩) b.sup.length cs,.slice Al b.loads.length cl,.int .i64 b.even] gm Bo (.slice Ao i co) i g8 (re2 b i) (1301)))
     case first =>
      by_cases t0:i=0
      ·have e0:((i:Int) == 0)=true:=beq_iff_eq.2 (by omega)
       have HR2:Hid (re1 b i+Zu 1000 [b.even,supAt b 0]=re2 b i):=by unfold Hid re2;rw [if_pos t0]
       have z0:=(HI3.out.st.bel.cell (p:=⟨bs,os+0,none⟩) hbs).trans (HSx.out 0 (by omega))
       rw [Nat.add_zero] at z0
       have t4:=Hb.out.sup 0 (by omega)
       clear t0
       generalize supAt b 0=sf at *
       have hs1:b.even.natAbs≤1152921504606846976:=by omega
       have hs2:sf.natAbs≤1152921504606846976:=by omega
       obtain ⟨sb1,sA1,sl1,sc1,sb2,sA2,sl2,sc2,hB,hE⟩:=HI3.out.sum
       have y0:=hB.cell 0
       have y1:=hB.cell 1
       have y2:=hB.cell 2
       have y3:=hB.cell 3
       simp only [zq1,zq2,zq3] at y0 y1 y2 y3
       have HE:=zh hE
       clear hB hE
       have c4:=HI3.out.st.bm.cell 4
       simp only [zq1,zq2,zq3] at c4
       go_upto_region 16 with fail
       have uy0:=HeldB.cell y0
       have uy1:=HeldB.cell y1
       have uy2:=HeldB.cell y2
       have uy3:=HeldB.cell y3
       have uc4:=HeldB.cell c4
       have uz0:=HeldB.cell z0
       clear y0 y1 y2 y3 c4 z0
       refine wp_region_grow 9 (fun jx => if jx=6 then some (gI [b.even,sf]) else if jx=7 then some (gEq (Zu 1000 [b.even,sf]) (30)) else if jx=8 then some (gEq (re1 b i+Zu 1000 [b.even,sf]) (1301)) else none) (by kernel_rfl) (by kernel_rfl) ?_
       simp only [zt1,zt2,zt3,zt4]
       refine wpG_quiet 6 (by kernel_rfl) (by rfl) (by decide) ?_
       simp only [zt1,zt2,zt3,zt4]
       repeat (go_big_quiet_step (fail))
       refine wpQuiet_nil ?_
       refine wpG_new rfl rfl (fun w1 hb1 _ => gI_new (T:=3) (l:=[b.even,sf]) (Nat.le_of_ble_eq_true rfl) (by go_simp)) ?_
       rintro _ ⟨g94,rfl⟩
       simp only [Act.put,zs1,zs2,zs3]
       refine wpG_call rfl rfl ?_ ?_
       ·intro w1 hb1 hk
        have h94:IntsAt w1 w1.heap.size (.slice (some ⟨g94,0,none⟩) 2 2) [b.even,sf]:=hk 94 (of_decide_eq_true (by kernel_rfl))
        have hC:=rgPart 1000 _ [b.even,sf] w1 h94 (Nat.le_of_ble_eq_true rfl) (tiny2 hs1 hs2) (by decide) (by decide)
        exact ⟨134,#[.slice (some ⟨g94,0,none⟩) 2 2,.int .i64 1000],by go_simp,Zg hC⟩
       rintro _ ⟨r95b1,r95A1,r95l1,r95c1,r95b2,r95A2,r95l2,r95c2,rfl⟩
       simp only [Act.put,zs1,zs2,zs3]
       refine wpG_call rfl rfl ?_ ?_
       ·intro w1 hb1 hk
        have h95:ExqAt w1 w1.heap.size (.agg #[.bool r95b1,.slice r95A1 r95l1 r95c1,.bool r95b2,.slice r95A2 r95l2 r95c2]) (Zu 1000 [b.even,sf]) (30):=hk 95 (of_decide_eq_true (by kernel_rfl))
        have hC:=rgEPlus _ _ _ _ (1270) 30 w1 (HE.out.grow hb1) h95 (by omega)
        exact ⟨133,#[.agg #[.bool sb1,.slice sA1 sl1 sc1,.bool sb2,.slice sA2 sl2 sc2],.agg #[.bool r95b1,.slice r95A1 r95l1 r95c1,.bool r95b2,.slice r95A2 r95l2 r95c2]],by go_simp,Zg hC⟩
       rintro _ ⟨r96b1,r96A1,r96l1,r96c1,r96b2,r96A2,r96l2,r96c2,rfl⟩
       simp only [Act.put,zs1,zs2,zs3]
       refine Zc ?_
       intro w8 hb8 hF
       have h26:ExqAt w8 w8.heap.size (.agg #[.bool r96b1,.slice r96A1 r96l1 r96c1,.bool r96b2,.slice r96A2 r96l2 r96c2]) (re1 b i+Zu 1000 [b.even,sf]) (1301):=hF 96
       have HG:=HI3.out.grow hb8
       obtain ⟨_,_,_,_,_,_,_,_,hD5,-⟩:=HG.sum
       have HI4:=zh (HG.put h26)
       have q0:=hD5.cell 0
       have q1:=hD5.cell 1
       have q2:=hD5.cell 2
       have q3:=hD5.cell 3
       simp only [zq1,zq2,zq3] at q0 q1 q2 q3
       have fz0:=hD5.frozen (0)
       have fz1:=hD5.frozen (1)
       have fz2:=hD5.frozen (2)
       have fz3:=hD5.frozen (3)
       clear hF h26 hD5 HG hb8 HE HI3 uy0 uy1 uy2 uy3 uc4 uz0
       rw [HR2.out] at HI4
       go_wp2_with fail
       go_meet
       exact ⟨rfl,HI4⟩
      ·have e0:((i:Int) == 0)=false:=beq_eq_false_iff_ne.2 (by omega)
       have HI4:Hid (RcI w wr b #[.string b.name,.int .i64 b.len,.slice (some ⟨bs,os,none⟩) b.sup.length cs,.slice Al b.loads.length cl,.int .i64 b.even] gm Bo (.slice Ao i co) i g8 (re2 b i) (1301)):=by
        have e:re1 b i=re2 b i:=by unfold re2;rw [if_neg t0]
        rw [← e]
        exact HI3.out.more (by decide)
       clear HI3 t0
       go_wp2_with fail
       go_meet
       exact ⟨rfl,HI4⟩
     case rest =>
      obtain ⟨rfl,HI4⟩:=hcut
      clear HI3
      have j0:(0:Int)≤(b.sup.length:Int)-1:=by omega
      have j1:(b.sup.length:Int)-1<(b.sup.length:Int):=by omega
      have j2:((b.sup.length:Int)-1).toNat=b.sup.length-1:=by omega
      have j5:IntKind.i64.wrap ((b.sup.length:Int)-1)=(b.sup.length:Int)-1:=IntWalk.i64_in _ (by omega)
      go_upto_if 100 with fail
      go_cut [8] from 100 to 114 (fun s8 wx => s8 = .pointer (some ⟨g8,0,none⟩)∧Hid (RcI w wx b #[.string b.name,.int .i64 b.len,.slice (some ⟨bs,os,none⟩) b.sup.length cs,.slice Al b.loads.length cl,.int .i64 b.even] gm Bo (.slice Ao i co) i g8 (re3 b i) (1332)))
      case first =>
       by_cases t0:i+1=b.sup.length
       ·have e0:((i:Int) == (b.sup.length:Int)-1)=true:=beq_iff_eq.2 (by omega)
        have HR2:Hid (re2 b i+Zu 1000 [b.even,b.len-supAt b i]=re3 b i):=by unfold Hid re3;rw [if_pos t0]
        have z0:=(HI4.out.st.bel.cell (p:=⟨bs,os+(b.sup.length-1),none⟩) hbs).trans (HSx.out (b.sup.length-1) (by omega))
        have t4:=Hb.out.sup i hil
        have ei:b.sup.length-1=i:=by omega
        rw [show supAt b (b.sup.length-1)=supAt b i by rw [ei]] at z0
        clear t0 ei
        generalize supAt b i=sf at *
        have hs1:b.even.natAbs≤1152921504606846976:=by omega
        have hs2:(b.len-sf).natAbs≤1152921504606846976:=by omega
        have v7:IntKind.i64.wrap (b.len-sf)=b.len-sf:=IntWalk.i64_in _ (by omega)
        obtain ⟨sb1,sA1,sl1,sc1,sb2,sA2,sl2,sc2,hB,hE⟩:=HI4.out.sum
        have y0:=hB.cell 0
        have y1:=hB.cell 1
        have y2:=hB.cell 2
        have y3:=hB.cell 3
        simp only [zq1,zq2,zq3] at y0 y1 y2 y3
        have HE:=zh hE
        clear hB hE
        have c1:=HI4.out.st.bm.cell 1
        have c4:=HI4.out.st.bm.cell 4
        simp only [zq1,zq2,zq3] at c1 c4
        go_upto_region 18 with fail
        have uy0:=HeldB.cell y0
        have uy1:=HeldB.cell y1
        have uy2:=HeldB.cell y2
        have uy3:=HeldB.cell y3
        have uc1:=HeldB.cell c1
        have uc4:=HeldB.cell c4
        have uz0:=HeldB.cell z0
        clear y0 y1 y2 y3 c1 c4 z0
        refine wp_region_grow 14 (fun jx => if jx=11 then some (gI [b.even,b.len-sf]) else if jx=12 then some (gEq (Zu 1000 [b.even,b.len-sf]) (30)) else if jx=13 then some (gEq (re2 b i+Zu 1000 [b.even,b.len-sf]) (1332)) else none) (by kernel_rfl) (by kernel_rfl) ?_
        simp only [zt1,zt2,zt3,zt4]
        refine wpG_quiet 11 (by kernel_rfl) (by rfl) (by decide) ?_
        simp only [zt1,zt2,zt3,zt4]
        repeat (go_big_quiet_step (fail))
        refine wpQuiet_nil ?_
        refine wpG_new rfl rfl (fun w1 hb1 _ => gI_new (T:=3) (l:=[b.even,b.len-sf]) (Nat.le_of_ble_eq_true rfl) (by go_simp)) ?_
        rintro _ ⟨g112,rfl⟩
        simp only [Act.put,zs1,zs2,zs3]
        refine wpG_call rfl rfl ?_ ?_
        ·intro w1 hb1 hk
         have h112:IntsAt w1 w1.heap.size (.slice (some ⟨g112,0,none⟩) 2 2) [b.even,b.len-sf]:=hk 112 (of_decide_eq_true (by kernel_rfl))
         have hC:=rgPart 1000 _ [b.even,b.len-sf] w1 h112 (Nat.le_of_ble_eq_true rfl) (tiny2 hs1 hs2) (by decide) (by decide)
         exact ⟨134,#[.slice (some ⟨g112,0,none⟩) 2 2,.int .i64 1000],by go_simp,Zg hC⟩
        rintro _ ⟨r113b1,r113A1,r113l1,r113c1,r113b2,r113A2,r113l2,r113c2,rfl⟩
        simp only [Act.put,zs1,zs2,zs3]
        refine wpG_call rfl rfl ?_ ?_
        ·intro w1 hb1 hk
         have h113:ExqAt w1 w1.heap.size (.agg #[.bool r113b1,.slice r113A1 r113l1 r113c1,.bool r113b2,.slice r113A2 r113l2 r113c2]) (Zu 1000 [b.even,b.len-sf]) (30):=hk 113 (of_decide_eq_true (by kernel_rfl))
         have hC:=rgEPlus _ _ _ _ (1301) 30 w1 (HE.out.grow hb1) h113 (by omega)
         exact ⟨133,#[.agg #[.bool sb1,.slice sA1 sl1 sc1,.bool sb2,.slice sA2 sl2 sc2],.agg #[.bool r113b1,.slice r113A1 r113l1 r113c1,.bool r113b2,.slice r113A2 r113l2 r113c2]],by go_simp,Zg hC⟩
        rintro _ ⟨r114b1,r114A1,r114l1,r114c1,r114b2,r114A2,r114l2,r114c2,rfl⟩
        simp only [Act.put,zs1,zs2,zs3]
        refine Zc ?_
        intro w8 hb8 hF
        have h26:ExqAt w8 w8.heap.size (.agg #[.bool r114b1,.slice r114A1 r114l1 r114c1,.bool r114b2,.slice r114A2 r114l2 r114c2]) (re2 b i+Zu 1000 [b.even,b.len-sf]) (1332):=hF 114
        have HG:=HI4.out.grow hb8
        obtain ⟨_,_,_,_,_,_,_,_,hD5,-⟩:=HG.sum
        have HI5:=zh (HG.put h26)
        have q0:=hD5.cell 0
        have q1:=hD5.cell 1
        have q2:=hD5.cell 2
        have q3:=hD5.cell 3
        simp only [zq1,zq2,zq3] at q0 q1 q2 q3
        have fz0:=hD5.frozen (0)
        have fz1:=hD5.frozen (1)
        have fz2:=hD5.frozen (2)
        have fz3:=hD5.frozen (3)
        clear hF h26 hD5 HG hb8 HE HI4 uy0 uy1 uy2 uy3 uc1 uc4 uz0
        rw [HR2.out] at HI5
        go_wp2_with fail
        go_meet
        exact ⟨rfl,HI5⟩
       ·have e0:((i:Int) == (b.sup.length:Int)-1)=false:=beq_eq_false_iff_ne.2 (by omega)
        have HI5:Hid (RcI w wc b #[.string b.name,.int .i64 b.len,.slice (some ⟨bs,os,none⟩) b.sup.length cs,.slice Al b.loads.length cl,.int .i64 b.even] gm Bo (.slice Ao i co) i g8 (re3 b i) (1332)):=by
         have e:re2 b i=re3 b i:=by unfold re3;rw [if_neg t0]
         rw [← e]
         exact HI4.out.more (by decide)
        clear HI4 t0
        go_wp2_with fail
        go_meet
        exact ⟨rfl,HI5⟩
      case rest =>
       obtain ⟨rfl,HI5⟩:=hcut
       clear HI4 j0 j1 j2 j5
       have HS0:Hid (RcI w wc b #[.string b.name,.int .i64 b.len,.slice (some ⟨bs,os,none⟩) b.sup.length cs,.slice Al b.loads.length cl,.int .i64 b.even] gm Bo (.slice Ao i co) i g8 (sideQ b i 0) (1332+136363*0)):=HI5
       clear HI5
       go_wp2_with fail
       go_loopw [11] (fun kx wr => ∃ s:Nat,s≤2∧kx = .int .i64 s∧Hid (RcI w wr b #[.string b.name,.int .i64 b.len,.slice (some ⟨bs,os,none⟩) b.sup.length cs,.slice Al b.loads.length cl,.int .i64 b.even] gm Bo (.slice Ao i co) i g8 (sideQ b i s) (1332+136363*s))) (fun kx _ => 2-(intOf kx).toNat)
       case atStart => exact ⟨0,by decide,rfl,HS0⟩
       case round =>
        clear HS0
        obtain ⟨s,hs,rfl,HI⟩:=hrel
        rcases s with _ | _ | s
        ·by_cases hi0:0<i
         ·as_aux_lemma =>
          have es:((0:Nat):Int)=0:=rfl
          rw [es]
          clear es hs
          have HI0:Hid (RcI w wr b #[.string b.name,.int .i64 b.len,.slice (some ⟨bs,os,none⟩) b.sup.length cs,.slice Al b.loads.length cl,.int .i64 b.even] gm Bo (.slice Ao i co) i g8 (re3 b i) (1332)):=HI
          clear HI
          have HSo:=zh hi0
          obtain ⟨p,hp⟩:∃ p,p+1=i:=⟨i-1,by omega⟩
          have v1:IntKind.i64.wrap ((i:Int)-1)=(p:Int):=(IntWalk.i64_in _ (by omega)).trans (by omega)
          have t1:=Hb.out.inc p (by omega)
          rw [hp] at t1
          have HRe:Hid (armR b (supAt b p) (supAt b i) false (Zx b i) (Zx b p) (re3 b i)=re4 b i):=by unfold Hid re4;rw [if_pos hi0,show i-1=p by omega]
          have hpn:p<b.sup.length:=by omega
          have z1:=(HI0.out.st.bel.cell (p:=⟨bs,os+i,none⟩) hbs).trans (HSx.out i hil)
          have zk:=(HI0.out.st.bel.cell (p:=⟨bs,os+p,none⟩) hbs).trans (HSx.out p hpn)
          have Hzk:=zh (HSx.out p hpn)
          have t2:=Hb.out.sup i hil
          have t3:=Hb.out.sup p hpn
          have p0:(0:Int)≤(p:Int):=Int.natCast_nonneg _
          have pn:(p:Int)<(b.sup.length:Int):=by omega
          have d1:decide ((p:Int)<0)=false:=decide_eq_false (by omega)
          have d2:decide ((b.sup.length:Int)≤(p:Int))=false:=decide_eq_false (by omega)
          have d3:decide (b.sup.length≤p)=false:=decide_eq_false (by omega)
          have Hp:=zh hp
          generalize supAt b i=si at *
          generalize supAt b p=sk at *
          obtain ⟨t21,t22⟩:=t2
          obtain ⟨t31,t32⟩:=t3
          obtain ⟨l,hl⟩:∃ l,si-sk=l:=⟨_,rfl⟩
          have l1:1≤l:=by omega
          have l2:l≤1048576:=by omega
          have v2:IntKind.i64.wrap (si-sk)=l:=(IntWalk.i64_in _ (by omega)).trans hl
          have Hl:=zh hl
          clear hp hi0 hl
          go_upto_region 26 with fail
          go_quiet (fail)
          go_upto_region 28 with fail
          generalize hdw:wr.drewN nq=W5 at *
          have HI1:Hid (RcI w W5 b #[.string b.name,.int .i64 b.len,.slice (some ⟨bs,os,none⟩) b.sup.length cs,.slice Al b.loads.length cl,.int .i64 b.even] gm Bo (.slice Ao i co) i g8 (re3 b i) (1332)):=by rw [← hdw];exact HI0.out.grow (Zf (Below.refl _ _) _)
          clear hdw HI0 z1 zk d1 d2 d3
          have hs1:b.even.natAbs≤1152921504606846976:=by omega
          have hs2:l.natAbs≤1152921504606846976:=by omega
          obtain ⟨sb1,sA1,sl1,sc1,sb2,sA2,sl2,sc2,hB,hE⟩:=HI1.out.sum
          have y0:=hB.cell 0
          have y1:=hB.cell 1
          have y2:=hB.cell 2
          have y3:=hB.cell 3
          simp only [zq1,zq2,zq3] at y0 y1 y2 y3
          have HE:=zh hE
          clear hB hE
          have c4:=HI1.out.st.bm.cell 4
          simp only [zq1,zq2,zq3] at c4
          have uy0:=HeldB.cell y0
          have uy1:=HeldB.cell y1
          have uy2:=HeldB.cell y2
          have uy3:=HeldB.cell y3
          have uc4:=HeldB.cell c4
          clear y0 y1 y2 y3 c4
          refine wp_region_grow 7 (fun jx => if jx=4 then some (gI [b.even,l]) else if jx=5 then some (gEq (Zu 2000 [b.even,l]) (30)) else if jx=6 then some (gEq (re3 b i+Zu 2000 [b.even,l]) (1363)) else none) (by kernel_rfl) (by kernel_rfl) ?_
          simp only [zt1,zt2,zt3,zt4]
          refine wpG_quiet 4 (by kernel_rfl) (by rfl) (by decide) ?_
          simp only [zt1,zt2,zt3,zt4]
          repeat (go_big_quiet_step (fail))
          refine wpQuiet_nil ?_
          refine wpG_new rfl rfl (fun w1 hb1 _ => gI_new (T:=3) (l:=[b.even,l]) (Nat.le_of_ble_eq_true rfl) (by go_simp)) ?_
          rintro _ ⟨g157,rfl⟩
          simp only [Act.put,zs1,zs2,zs3]
          refine wpG_call rfl rfl ?_ ?_
          ·intro w1 hb1 hk
           have h157:IntsAt w1 w1.heap.size (.slice (some ⟨g157,0,none⟩) 2 2) [b.even,l]:=hk 157 (of_decide_eq_true (by kernel_rfl))
           have hC:=rgPart 2000 _ [b.even,l] w1 h157 (Nat.le_of_ble_eq_true rfl) (tiny2 hs1 hs2) (by decide) (by decide)
           exact ⟨134,#[.slice (some ⟨g157,0,none⟩) 2 2,.int .i64 2000],by go_simp,Zg hC⟩
          rintro _ ⟨r158b1,r158A1,r158l1,r158c1,r158b2,r158A2,r158l2,r158c2,rfl⟩
          simp only [Act.put,zs1,zs2,zs3]
          refine wpG_call rfl rfl ?_ ?_
          ·intro w1 hb1 hk
           have h158:ExqAt w1 w1.heap.size (.agg #[.bool r158b1,.slice r158A1 r158l1 r158c1,.bool r158b2,.slice r158A2 r158l2 r158c2]) (Zu 2000 [b.even,l]) (30):=hk 158 (of_decide_eq_true (by kernel_rfl))
           have hC:=rgEPlus _ _ _ _ (1332) 30 w1 (HE.out.grow hb1) h158 (by omega)
           exact ⟨133,#[.agg #[.bool sb1,.slice sA1 sl1 sc1,.bool sb2,.slice sA2 sl2 sc2],.agg #[.bool r158b1,.slice r158A1 r158l1 r158c1,.bool r158b2,.slice r158A2 r158l2 r158c2]],by go_simp,Zg hC⟩
          rintro _ ⟨r159b1,r159A1,r159l1,r159c1,r159b2,r159A2,r159l2,r159c2,rfl⟩
          simp only [Act.put,zs1,zs2,zs3]
          refine Zc ?_
          intro w8 hb8 hF
          have h26:ExqAt w8 w8.heap.size (.agg #[.bool r159b1,.slice r159A1 r159l1 r159c1,.bool r159b2,.slice r159A2 r159l2 r159c2]) (re3 b i+Zu 2000 [b.even,l]) (1363):=hF 159
          have HG:=HI1.out.grow hb8
          obtain ⟨_,_,_,_,_,_,_,_,hD5,-⟩:=HG.sum
          have HI2:=zh (HG.put h26)
          have q0:=hD5.cell 0
          have q1:=hD5.cell 1
          have q2:=hD5.cell 2
          have q3:=hD5.cell 3
          simp only [zq1,zq2,zq3] at q0 q1 q2 q3
          have fz0:=hD5.frozen (0)
          have fz1:=hD5.frozen (1)
          have fz2:=hD5.frozen (2)
          have fz3:=hD5.frozen (3)
          clear hF h26 hD5 HG hb8 HE HI1 uy0 uy1 uy2 uy3 uc4
          have HQ0:Hid (re3 b i+Zu 2000 [b.even,l]=armTo b sk si false (re3 b i) 0):=by unfold Hid armTo;rw [Hl.out];rfl
          rw [HQ0.out] at HI2
          clear HQ0
          go_wp2_with fail
          generalize (((((w8).setCell ⟨g8,0,none⟩ (.bool r159b1)).setCell ⟨g8,1,none⟩ (.slice r159A1 r159l1 r159c1)).setCell ⟨g8,2,none⟩ (.bool r159b2)).setCell ⟨g8,3,none⟩ (.slice r159A2 r159l2 r159c2))=W6 at *
          clear q0 q1 q2 q3 fz0 fz1 fz2 fz3
          have HI3:Hid (RcI w W6 b #[.string b.name,.int .i64 b.len,.slice (some ⟨bs,os,none⟩) b.sup.length cs,.slice Al b.loads.length cl,.int .i64 b.even] gm Bo (.slice Ao i co) i g8 (armTo b sk si false (re3 b i) 0) (1363+31*0)):=HI2
          clear HI2
          go_loopw [16] (fun kx wr => ∃ k:Nat,k≤b.loads.length∧kx = .int .i64 k∧Hid (RcI w wr b #[.string b.name,.int .i64 b.len,.slice (some ⟨bs,os,none⟩) b.sup.length cs,.slice Al b.loads.length cl,.int .i64 b.even] gm Bo (.slice Ao i co) i g8 (armTo b sk si false (re3 b i) k) (1363+31*k))) (fun kx _ => b.loads.length-(intOf kx).toNat)
          case atStart => exact ⟨0,Nat.zero_le _,rfl,HI3⟩
          case round =>
           clear HI3
           obtain ⟨k,hk,rfl,HI⟩:=hrel
           have k0:(0:Int)≤(k:Int):=Int.natCast_nonneg _
           by_cases hkl:k<b.loads.length
           ·have k1:(k:Int)<(b.loads.length:Int):=by omega
            obtain ⟨bl,ol,rfl,hlt,hcl⟩:=HLc.out k hkl
            obtain ⟨hx1,hx2⟩:=hcl k hkl
            have hx1:=(HI.out.st.bel.cell (p:=⟨bl,ol+k*2,none⟩) hlt).trans hx1
            have hx2:=(HI.out.st.bel.cell (p:=⟨bl,ol+k*2+1,none⟩) hlt).trans hx2
            have zk:=(HI.out.st.bel.cell (p:=⟨bs,os+p,none⟩) hbs).trans Hzk.out
            obtain ⟨p1,p2,p3,p4⟩:=Hb.out.loads _ (List.getElem_mem hkl)
            have HOn:=zh (fun y => over_one (b:=b) (f:=leverF sk si false) (s:=re3 b i+Zu 2000 [b.even,si-sk]) (y:=y) hkl)
            have HNo:=zh (over_none (b:=b) (f:=leverF sk si false) (s:=re3 b i+Zu 2000 [b.even,si-sk]) hkl)
            have HEs:=zh (fun d => lever_some (lo:=sk) (hi:=si) (d:=d) (left:=false) (x:=b.loads[k]))
            have HEn:=zh (lever_none (lo:=sk) (hi:=si) (left:=false) (x:=b.loads[k]))
            clear hcl
            generalize b.loads[k]=x at *
            obtain ⟨pos,wt⟩:=x
            simp only at hx1 hx2 p1 p2 p3 p4 HEs HEn
            have c3:=HI.out.st.bm.cell 3
            simp only [zq1,zq2,zq3] at c3
            by_cases hE:sk<pos∧pos<si
            ·obtain ⟨d,hd⟩:∃ d,pos-sk=d:=⟨_,rfl⟩
             have e1:decide (sk<pos)=true:=decide_eq_true hE.1
             have e2:decide (pos<si)=true:=decide_eq_true hE.2
             have HT2:Hid (armTo b sk si false (re3 b i) (k+1)=armTo b sk si false (re3 b i) k+Zu l [wt,d]):=by
              have:=HOn.out _ (HEs.out d hE (by simpa using hd.symm))
              rw [Hl.out] at this
              unfold Hid armTo
              rw [Hl.out]
              exact this
             have v4:IntKind.i64.wrap (pos-sk)=d:=(IntWalk.i64_in _ (by omega)).trans (by omega)
             have e3:decide (d<0)=false:=decide_eq_false (by omega)
             have e4:1≤d:=by omega
             have hs3:wt.natAbs≤1152921504606846976:=by omega
             have hs4:d.natAbs≤1152921504606846976:=by omega
             have l3:0<l:=by omega
             have l4:l≤1152921504606846976:=by omega
             clear hE hd HOn HNo HEs HEn
             obtain ⟨sb1,sA1,sl1,sc1,sb2,sA2,sl2,sc2,hB,hE⟩:=HI.out.sum
             have y0:=hB.cell 0
             have y1:=hB.cell 1
             have y2:=hB.cell 2
             have y3:=hB.cell 3
             simp only [zq1,zq2,zq3] at y0 y1 y2 y3
             have HE:=zh hE
             clear hB hE
             go_upto_region 37 with fail
             have uy0:=HeldB.cell y0
             have uy1:=HeldB.cell y1
             have uy2:=HeldB.cell y2
             have uy3:=HeldB.cell y3
             have uc3:=HeldB.cell c3
             have uhx2:=HeldB.cell hx2
             clear y0 y1 y2 y3 c3 hx2
             refine wp_region_grow 12 (fun jx => if jx=8 then some (gI [wt,d]) else if jx=10 then some (gEq (Zu l [wt,d]) (30)) else if jx=11 then some (gEq (armTo b sk si false (re3 b i) k+Zu l [wt,d]) (1363+31*(k+1))) else none) (by kernel_rfl) (by kernel_rfl) ?_
             simp only [zt1,zt2,zt3,zt4]
             refine wpG_quiet 8 (by kernel_rfl) (by rfl) (by decide) ?_
             simp only [zt1,zt2,zt3,zt4]
             repeat (go_big_quiet_step (fail))
             refine wpQuiet_nil ?_
             refine wpG_new rfl rfl (fun w1 hb1 _ => gI_new (T:=3) (l:=[wt,d]) (Nat.le_of_ble_eq_true rfl) (by go_simp)) ?_
             rintro _ ⟨g199,rfl⟩
             simp only [Act.put,zs1,zs2,zs3]
             refine wpG_quiet 1 (by kernel_rfl) (by rfl) (by decide) ?_
             simp only [zt1,zt2,zt3,zt4]
             repeat (go_big_quiet_step (fail))
             refine wpQuiet_nil ?_
             refine wpG_call rfl rfl ?_ ?_
             ·intro w1 hb1 hk
              have h199:IntsAt w1 w1.heap.size (.slice (some ⟨g199,0,none⟩) 2 2) [wt,d]:=hk 199 (of_decide_eq_true (by kernel_rfl))
              have hC:=rgPart l _ [wt,d] w1 h199 (Nat.le_of_ble_eq_true rfl) (tiny2 hs3 hs4) l3 l4
              exact ⟨134,#[.slice (some ⟨g199,0,none⟩) 2 2,.int .i64 l],by go_simp,Zg hC⟩
             rintro _ ⟨r201b1,r201A1,r201l1,r201c1,r201b2,r201A2,r201l2,r201c2,rfl⟩
             simp only [Act.put,zs1,zs2,zs3]
             refine wpG_call rfl rfl ?_ ?_
             ·intro w1 hb1 hk
              have h201:ExqAt w1 w1.heap.size (.agg #[.bool r201b1,.slice r201A1 r201l1 r201c1,.bool r201b2,.slice r201A2 r201l2 r201c2]) (Zu l [wt,d]) (30):=hk 201 (of_decide_eq_true (by kernel_rfl))
              have hC:=rgEPlus _ _ _ _ (1363+31*k) 30 w1 (HE.out.grow hb1) h201 (by omega)
              exact ⟨133,#[.agg #[.bool sb1,.slice sA1 sl1 sc1,.bool sb2,.slice sA2 sl2 sc2],.agg #[.bool r201b1,.slice r201A1 r201l1 r201c1,.bool r201b2,.slice r201A2 r201l2 r201c2]],by go_simp,Zg hC⟩
             rintro _ ⟨r202b1,r202A1,r202l1,r202c1,r202b2,r202A2,r202l2,r202c2,rfl⟩
             simp only [Act.put,zs1,zs2,zs3]
             refine Zc ?_
             intro w8 hb8 hF
             have h26:ExqAt w8 w8.heap.size (.agg #[.bool r202b1,.slice r202A1 r202l1 r202c1,.bool r202b2,.slice r202A2 r202l2 r202c2]) (armTo b sk si false (re3 b i) k+Zu l [wt,d]) (1363+31*(k+1)):=hF 202
             have HG:=HI.out.grow hb8
             obtain ⟨_,_,_,_,_,_,_,_,hD5,-⟩:=HG.sum
             have HI2:=zh (HG.put h26)
             have q0:=hD5.cell 0
             have q1:=hD5.cell 1
             have q2:=hD5.cell 2
             have q3:=hD5.cell 3
             simp only [zq1,zq2,zq3] at q0 q1 q2 q3
             have fz0:=hD5.frozen (0)
             have fz1:=hD5.frozen (1)
             have fz2:=hD5.frozen (2)
             have fz3:=hD5.frozen (3)
             clear hF h26 hD5 HG hb8 HE HI uy0 uy1 uy2 uy3 uc3 uhx2
             rw [← HT2.out] at HI2
             go_wp2_with fail
             clear q0 q1 q2 q3 fz0 fz1 fz2 fz3 HT2
             go_roundw
             case rel => exact ⟨k+1,by omega,by go_num,HI2⟩
             case measure => simp [intOf];omega
            ·have HT2:Hid (armTo b sk si false (re3 b i) (k+1)=armTo b sk si false (re3 b i) k):=HNo.out (HEn.out hE)
             have HI2:Hid (RcI w wr b #[.string b.name,.int .i64 b.len,.slice (some ⟨bs,os,none⟩) b.sup.length cs,.slice (some ⟨bl,ol,none⟩) b.loads.length cl,.int .i64 b.even] gm Bo (.slice Ao i co) i g8 (armTo b sk si false (re3 b i) (k+1)) (1363+31*(k+1))):=by
              rw [HT2.out]
              exact HI.out.more (by omega)
             have hc:decide (sk<pos)=false∨decide (sk<pos)=true∧decide (pos<si)=false:=by
              by_cases h:sk<pos
              ·exact .inr ⟨decide_eq_true h,decide_eq_false (fun h2 => hE ⟨h,h2⟩)⟩
              ·exact .inl (decide_eq_false h)
             clear hE HOn HNo HEs HEn HI HT2
             rcases hc with e1 | ⟨e1,e2⟩
             all_goals
              go_wp2_with fail
              go_roundw
              case rel => exact ⟨k+1,by omega,by go_num,HI2⟩
              case measure => simp [intOf];omega
           ·obtain rfl:k=b.loads.length:=by omega
            have HI2:Hid (RcI w wr b #[.string b.name,.int .i64 b.len,.slice (some ⟨bs,os,none⟩) b.sup.length cs,.slice Al b.loads.length cl,.int .i64 b.even] gm Bo (.slice Ao i co) i g8 (armTo b sk si false (re3 b i) b.loads.length) (2603)):=HI.out.more (by omega)
            clear HI
            obtain ⟨sb1,sA1,sl1,sc1,sb2,sA2,sl2,sc2,hB,hE⟩:=HI2.out.sum
            have y0:=hB.cell 0
            have y1:=hB.cell 1
            have y2:=hB.cell 2
            have y3:=hB.cell 3
            simp only [zq1,zq2,zq3] at y0 y1 y2 y3
            have HE:=zh hE
            clear hB hE
            have c3:=HI2.out.st.bm.cell 3
            simp only [zq1,zq2,zq3] at c3
            obtain ⟨ab1,aA1,al1,ac1,ab2,aA2,al2,ac2,a0,a1,a2,a3,aE⟩:=HI2.out.st.m.read (i:=p) hpn
            obtain ⟨db1,dA1,dl1,dc1,db2,dA2,dl2,dc2,d0,d1,d2,d3,dE⟩:=HI2.out.st.m.read (i:=i) hil
            have HA:=zh (aE _ rfl)
            have HD:=zh (dE _ rfl)
            have hs3:(1:Int).natAbs≤1152921504606846976:=by decide
            have l3:0<l:=by omega
            have l4:l≤1152921504606846976:=by omega
            clear aE dE
            go_upto_region 38 with fail
            clear c3
            have uy0:=HeldB.cell y0
            have uy1:=HeldB.cell y1
            have uy2:=HeldB.cell y2
            have uy3:=HeldB.cell y3
            have ua0:=HeldB.cell a0
            have ua1:=HeldB.cell a1
            have ua2:=HeldB.cell a2
            have ua3:=HeldB.cell a3
            have ud0:=HeldB.cell d0
            have ud1:=HeldB.cell d1
            have ud2:=HeldB.cell d2
            have ud3:=HeldB.cell d3
            clear y0 y1 y2 y3 a0 a1 a2 a3 d0 d1 d2 d3
            refine wp_region_grow 15 (fun jx => if jx=9 then some (gEq (Zx b p-Zx b i) (135061)) else if jx=10 then some (gI [1]) else if jx=12 then some (gEq (Zu l [1]) (30)) else if jx=13 then some (gEq ((Zx b p-Zx b i)*Zu l [1]) (135091)) else if jx=14 then some (gEq (armTo b sk si false (re3 b i) b.loads.length+(Zx b p-Zx b i)*Zu l [1]) (137695)) else none) (by kernel_rfl) (by kernel_rfl) ?_
            simp only [zt1,zt2,zt3,zt4]
            refine wpG_quiet 9 (by kernel_rfl) (by rfl) (by decide) ?_
            simp only [zt1,zt2,zt3,zt4]
            repeat (go_big_quiet_step (fail))
            refine wpQuiet_nil ?_
            refine wpG_call rfl rfl ?_ ?_
            ·intro w1 hb1 hk
             have hC:=rgELess _ _ _ _ 67530 67530 w1 (HA.out.grow hb1) (HD.out.grow hb1) (by decide)
             exact ⟨136,#[.agg #[.bool ab1,.slice aA1 al1 ac1,.bool ab2,.slice aA2 al2 ac2],.agg #[.bool db1,.slice dA1 dl1 dc1,.bool db2,.slice dA2 dl2 dc2]],by go_simp,Zg hC⟩
            rintro _ ⟨r212b1,r212A1,r212l1,r212c1,r212b2,r212A2,r212l2,r212c2,rfl⟩
            simp only [Act.put,zs1,zs2,zs3]
            refine wpG_new rfl rfl (fun w1 hb1 _ => gI_new (T:=3) (l:=[1]) (Nat.le_of_ble_eq_true rfl) (by go_simp)) ?_
            rintro _ ⟨g213,rfl⟩
            simp only [Act.put,zs1,zs2,zs3]
            refine wpG_quiet 1 (by kernel_rfl) (by rfl) (by decide) ?_
            simp only [zt1,zt2,zt3,zt4]
            repeat (go_big_quiet_step (fail))
            refine wpQuiet_nil ?_
            refine wpG_call rfl rfl ?_ ?_
            ·intro w1 hb1 hk
             have h213:IntsAt w1 w1.heap.size (.slice (some ⟨g213,0,none⟩) 1 1) [1]:=hk 213 (of_decide_eq_true (by kernel_rfl))
             have hC:=rgPart l _ [1] w1 h213 (Nat.le_of_ble_eq_true rfl) (tiny1 hs3) l3 l4
             exact ⟨134,#[.slice (some ⟨g213,0,none⟩) 1 1,.int .i64 l],by go_simp,Zg hC⟩
            rintro _ ⟨r215b1,r215A1,r215l1,r215c1,r215b2,r215A2,r215l2,r215c2,rfl⟩
            simp only [Act.put,zs1,zs2,zs3]
            refine wpG_call rfl rfl ?_ ?_
            ·intro w1 hb1 hk
             have h212:ExqAt w1 w1.heap.size (.agg #[.bool r212b1,.slice r212A1 r212l1 r212c1,.bool r212b2,.slice r212A2 r212l2 r212c2]) (Zx b p-Zx b i) (135061):=hk 212 (of_decide_eq_true (by kernel_rfl))
             have h215:ExqAt w1 w1.heap.size (.agg #[.bool r215b1,.slice r215A1 r215l1 r215c1,.bool r215b2,.slice r215A2 r215l2 r215c2]) (Zu l [1]) (30):=hk 215 (of_decide_eq_true (by kernel_rfl))
             have hC:=rgETimes _ _ _ _ 135061 30 w1 h212 h215 (by decide)
             exact ⟨135,#[.agg #[.bool r212b1,.slice r212A1 r212l1 r212c1,.bool r212b2,.slice r212A2 r212l2 r212c2],.agg #[.bool r215b1,.slice r215A1 r215l1 r215c1,.bool r215b2,.slice r215A2 r215l2 r215c2]],by go_simp,Zg hC⟩
            rintro _ ⟨r216b1,r216A1,r216l1,r216c1,r216b2,r216A2,r216l2,r216c2,rfl⟩
            simp only [Act.put,zs1,zs2,zs3]
            refine wpG_call rfl rfl ?_ ?_
            ·intro w1 hb1 hk
             have h216:ExqAt w1 w1.heap.size (.agg #[.bool r216b1,.slice r216A1 r216l1 r216c1,.bool r216b2,.slice r216A2 r216l2 r216c2]) ((Zx b p-Zx b i)*Zu l [1]) (135091):=hk 216 (of_decide_eq_true (by kernel_rfl))
             have hC:=rgEPlus _ _ _ _ 2603 135091 w1 (HE.out.grow hb1) h216 (by decide)
             exact ⟨133,#[.agg #[.bool sb1,.slice sA1 sl1 sc1,.bool sb2,.slice sA2 sl2 sc2],.agg #[.bool r216b1,.slice r216A1 r216l1 r216c1,.bool r216b2,.slice r216A2 r216l2 r216c2]],by go_simp,Zg hC⟩
            rintro _ ⟨r217b1,r217A1,r217l1,r217c1,r217b2,r217A2,r217l2,r217c2,rfl⟩
            simp only [Act.put,zs1,zs2,zs3]
            refine Zc ?_
            intro w8 hb8 hF
            have h26:ExqAt w8 w8.heap.size (.agg #[.bool r217b1,.slice r217A1 r217l1 r217c1,.bool r217b2,.slice r217A2 r217l2 r217c2]) (armTo b sk si false (re3 b i) b.loads.length+(Zx b p-Zx b i)*Zu l [1]) (137695):=hF 217
            have HG:=HI2.out.grow hb8
            obtain ⟨_,_,_,_,_,_,_,_,hD5,-⟩:=HG.sum
            have HI3:=zh (HG.put h26)
            have q0:=hD5.cell 0
            have q1:=hD5.cell 1
            have q2:=hD5.cell 2
            have q3:=hD5.cell 3
            simp only [zq1,zq2,zq3] at q0 q1 q2 q3
            have fz0:=hD5.frozen (0)
            have fz1:=hD5.frozen (1)
            have fz2:=hD5.frozen (2)
            have fz3:=hD5.frozen (3)
            clear hF h26 hD5 HG hb8 HE HI2 uy0 uy1 uy2 uy3 ua0 ua1 ua2 ua3 ud0 ud1 ud2 ud3 HA HD
            have HQ1:Hid (armTo b sk si false (re3 b i) b.loads.length+(Zx b p-Zx b i)*Zu l [1]=sideQ b i 1):=by
             have:=arm_end b sk si false (Zx b i) (Zx b p) (re3 b i)
             rw [Hl.out] at this
             exact this.trans HRe.out
            rw [HQ1.out] at HI3
            clear HQ1
            go_wp2_with fail
            clear q0 q1 q2 q3 fz0 fz1 fz2 fz3
            go_roundw
            case rel => exact ⟨1,by decide,rfl,HI3⟩
            case measure => simp [intOf]
         ·skip
          have es:((0:Nat):Int)=0:=rfl
          rw [es]
          clear es hs
          have HI2:Hid (RcI w wr b #[.string b.name,.int .i64 b.len,.slice (some ⟨bs,os,none⟩) b.sup.length cs,.slice Al b.loads.length cl,.int .i64 b.even] gm Bo (.slice Ao i co) i g8 (sideQ b i 1) (1332+136363*1)):=by
           have e:re3 b i=re4 b i:=by unfold re4;rw [if_neg hi0]
           exact (HI.out.is (q':=sideQ b i 1) e).more (by decide)
          clear HI
          have v1:IntKind.i64.wrap ((i:Int)-1) = -1:=(IntWalk.i64_in _ (by omega)).trans (by omega)
          have d1:decide ((-1:Int)<0)=true:=by decide
          clear hi0
          go_wp2_with fail
          go_roundw
          case rel => exact ⟨1,by decide,rfl,HI2⟩
          case measure => simp [intOf]
        ·by_cases hi0:i+1<b.sup.length
         ·as_aux_lemma =>
          have es:((0+1:Nat):Int)=1:=rfl
          rw [es]
          clear es hs
          have HI0:Hid (RcI w wr b #[.string b.name,.int .i64 b.len,.slice (some ⟨bs,os,none⟩) b.sup.length cs,.slice Al b.loads.length cl,.int .i64 b.even] gm Bo (.slice Ao i co) i g8 (re4 b i) (137695)):=HI
          clear HI
          have HSo:=zh hi0
          obtain ⟨p,hp⟩:∃ p,i+1=p:=⟨_,rfl⟩
          have v0:IntKind.i64.wrap ((i:Int)-1)=(i:Int)-1:=IntWalk.i64_in _ (by omega)
          have v1:IntKind.i64.wrap ((i:Int)+1)=(p:Int):=(IntWalk.i64_in _ (by omega)).trans (by omega)
          have t1:=Hb.out.inc i (by omega)
          rw [hp] at t1
          have HRe:Hid (armR b (supAt b i) (supAt b p) true (Zx b i) (Zx b p) (re4 b i)=re5 b i):=by unfold Hid re5;rw [if_pos hi0,hp]
          have hpn:p<b.sup.length:=by omega
          have z1:=(HI0.out.st.bel.cell (p:=⟨bs,os+i,none⟩) hbs).trans (HSx.out i hil)
          have zk:=(HI0.out.st.bel.cell (p:=⟨bs,os+p,none⟩) hbs).trans (HSx.out p hpn)
          have Hzk:=zh (HSx.out p hpn)
          have t2:=Hb.out.sup i hil
          have t3:=Hb.out.sup p hpn
          have p0:(0:Int)≤(p:Int):=Int.natCast_nonneg _
          have pn:(p:Int)<(b.sup.length:Int):=by omega
          have d1:decide ((p:Int)<0)=false:=decide_eq_false (by omega)
          have d2:decide ((b.sup.length:Int)≤(p:Int))=false:=decide_eq_false (by omega)
          have d3:decide (b.sup.length≤p)=false:=decide_eq_false (by omega)
          have Hp:=zh hp
          generalize supAt b i=si at *
          generalize supAt b p=sk at *
          obtain ⟨t21,t22⟩:=t2
          obtain ⟨t31,t32⟩:=t3
          obtain ⟨l,hl⟩:∃ l,sk-si=l:=⟨_,rfl⟩
          have l1:1≤l:=by omega
          have l2:l≤1048576:=by omega
          have v2:IntKind.i64.wrap (sk-si)=l:=(IntWalk.i64_in _ (by omega)).trans hl
          have Hl:=zh hl
          clear hp hi0 hl
          go_upto_region 26 with fail
          go_quiet (fail)
          go_upto_region 28 with fail
          generalize hdw:wr.drewN nq=W5 at *
          have HI1:Hid (RcI w W5 b #[.string b.name,.int .i64 b.len,.slice (some ⟨bs,os,none⟩) b.sup.length cs,.slice Al b.loads.length cl,.int .i64 b.even] gm Bo (.slice Ao i co) i g8 (re4 b i) (137695)):=by rw [← hdw];exact HI0.out.grow (Zf (Below.refl _ _) _)
          clear hdw HI0 z1 zk d1 d2 d3
          have hs1:b.even.natAbs≤1152921504606846976:=by omega
          have hs2:l.natAbs≤1152921504606846976:=by omega
          obtain ⟨sb1,sA1,sl1,sc1,sb2,sA2,sl2,sc2,hB,hE⟩:=HI1.out.sum
          have y0:=hB.cell 0
          have y1:=hB.cell 1
          have y2:=hB.cell 2
          have y3:=hB.cell 3
          simp only [zq1,zq2,zq3] at y0 y1 y2 y3
          have HE:=zh hE
          clear hB hE
          have c4:=HI1.out.st.bm.cell 4
          simp only [zq1,zq2,zq3] at c4
          have uy0:=HeldB.cell y0
          have uy1:=HeldB.cell y1
          have uy2:=HeldB.cell y2
          have uy3:=HeldB.cell y3
          have uc4:=HeldB.cell c4
          clear y0 y1 y2 y3 c4
          refine wp_region_grow 7 (fun jx => if jx=4 then some (gI [b.even,l]) else if jx=5 then some (gEq (Zu 2000 [b.even,l]) (30)) else if jx=6 then some (gEq (re4 b i+Zu 2000 [b.even,l]) (137726)) else none) (by kernel_rfl) (by kernel_rfl) ?_
          simp only [zt1,zt2,zt3,zt4]
          refine wpG_quiet 4 (by kernel_rfl) (by rfl) (by decide) ?_
          simp only [zt1,zt2,zt3,zt4]
          repeat (go_big_quiet_step (fail))
          refine wpQuiet_nil ?_
          refine wpG_new rfl rfl (fun w1 hb1 _ => gI_new (T:=3) (l:=[b.even,l]) (Nat.le_of_ble_eq_true rfl) (by go_simp)) ?_
          rintro _ ⟨g157,rfl⟩
          simp only [Act.put,zs1,zs2,zs3]
          refine wpG_call rfl rfl ?_ ?_
          ·intro w1 hb1 hk
           have h157:IntsAt w1 w1.heap.size (.slice (some ⟨g157,0,none⟩) 2 2) [b.even,l]:=hk 157 (of_decide_eq_true (by kernel_rfl))
           have hC:=rgPart 2000 _ [b.even,l] w1 h157 (Nat.le_of_ble_eq_true rfl) (tiny2 hs1 hs2) (by decide) (by decide)
           exact ⟨134,#[.slice (some ⟨g157,0,none⟩) 2 2,.int .i64 2000],by go_simp,Zg hC⟩
          rintro _ ⟨r158b1,r158A1,r158l1,r158c1,r158b2,r158A2,r158l2,r158c2,rfl⟩
          simp only [Act.put,zs1,zs2,zs3]
          refine wpG_call rfl rfl ?_ ?_
          ·intro w1 hb1 hk
           have h158:ExqAt w1 w1.heap.size (.agg #[.bool r158b1,.slice r158A1 r158l1 r158c1,.bool r158b2,.slice r158A2 r158l2 r158c2]) (Zu 2000 [b.even,l]) (30):=hk 158 (of_decide_eq_true (by kernel_rfl))
           have hC:=rgEPlus _ _ _ _ (137695) 30 w1 (HE.out.grow hb1) h158 (by omega)
           exact ⟨133,#[.agg #[.bool sb1,.slice sA1 sl1 sc1,.bool sb2,.slice sA2 sl2 sc2],.agg #[.bool r158b1,.slice r158A1 r158l1 r158c1,.bool r158b2,.slice r158A2 r158l2 r158c2]],by go_simp,Zg hC⟩
          rintro _ ⟨r159b1,r159A1,r159l1,r159c1,r159b2,r159A2,r159l2,r159c2,rfl⟩
          simp only [Act.put,zs1,zs2,zs3]
          refine Zc ?_
          intro w8 hb8 hF
          have h26:ExqAt w8 w8.heap.size (.agg #[.bool r159b1,.slice r159A1 r159l1 r159c1,.bool r159b2,.slice r159A2 r159l2 r159c2]) (re4 b i+Zu 2000 [b.even,l]) (137726):=hF 159
          have HG:=HI1.out.grow hb8
          obtain ⟨_,_,_,_,_,_,_,_,hD5,-⟩:=HG.sum
          have HI2:=zh (HG.put h26)
          have q0:=hD5.cell 0
          have q1:=hD5.cell 1
          have q2:=hD5.cell 2
          have q3:=hD5.cell 3
          simp only [zq1,zq2,zq3] at q0 q1 q2 q3
          have fz0:=hD5.frozen (0)
          have fz1:=hD5.frozen (1)
          have fz2:=hD5.frozen (2)
          have fz3:=hD5.frozen (3)
          clear hF h26 hD5 HG hb8 HE HI1 uy0 uy1 uy2 uy3 uc4
          have HQ0:Hid (re4 b i+Zu 2000 [b.even,l]=armTo b si sk true (re4 b i) 0):=by unfold Hid armTo;rw [Hl.out];rfl
          rw [HQ0.out] at HI2
          clear HQ0
          go_wp2_with fail
          generalize (((((w8).setCell ⟨g8,0,none⟩ (.bool r159b1)).setCell ⟨g8,1,none⟩ (.slice r159A1 r159l1 r159c1)).setCell ⟨g8,2,none⟩ (.bool r159b2)).setCell ⟨g8,3,none⟩ (.slice r159A2 r159l2 r159c2))=W6 at *
          clear q0 q1 q2 q3 fz0 fz1 fz2 fz3
          have HI3:Hid (RcI w W6 b #[.string b.name,.int .i64 b.len,.slice (some ⟨bs,os,none⟩) b.sup.length cs,.slice Al b.loads.length cl,.int .i64 b.even] gm Bo (.slice Ao i co) i g8 (armTo b si sk true (re4 b i) 0) (137726+31*0)):=HI2
          clear HI2
          go_loopw [16] (fun kx wr => ∃ k:Nat,k≤b.loads.length∧kx = .int .i64 k∧Hid (RcI w wr b #[.string b.name,.int .i64 b.len,.slice (some ⟨bs,os,none⟩) b.sup.length cs,.slice Al b.loads.length cl,.int .i64 b.even] gm Bo (.slice Ao i co) i g8 (armTo b si sk true (re4 b i) k) (137726+31*k))) (fun kx _ => b.loads.length-(intOf kx).toNat)
          case atStart => exact ⟨0,Nat.zero_le _,rfl,HI3⟩
          case round =>
           clear HI3
           obtain ⟨k,hk,rfl,HI⟩:=hrel
           have k0:(0:Int)≤(k:Int):=Int.natCast_nonneg _
           by_cases hkl:k<b.loads.length
           ·have k1:(k:Int)<(b.loads.length:Int):=by omega
            obtain ⟨bl,ol,rfl,hlt,hcl⟩:=HLc.out k hkl
            obtain ⟨hx1,hx2⟩:=hcl k hkl
            have hx1:=(HI.out.st.bel.cell (p:=⟨bl,ol+k*2,none⟩) hlt).trans hx1
            have hx2:=(HI.out.st.bel.cell (p:=⟨bl,ol+k*2+1,none⟩) hlt).trans hx2
            have zk:=(HI.out.st.bel.cell (p:=⟨bs,os+p,none⟩) hbs).trans Hzk.out
            obtain ⟨p1,p2,p3,p4⟩:=Hb.out.loads _ (List.getElem_mem hkl)
            have HOn:=zh (fun y => over_one (b:=b) (f:=leverF si sk true) (s:=re4 b i+Zu 2000 [b.even,sk-si]) (y:=y) hkl)
            have HNo:=zh (over_none (b:=b) (f:=leverF si sk true) (s:=re4 b i+Zu 2000 [b.even,sk-si]) hkl)
            have HEs:=zh (fun d => lever_some (lo:=si) (hi:=sk) (d:=d) (left:=true) (x:=b.loads[k]))
            have HEn:=zh (lever_none (lo:=si) (hi:=sk) (left:=true) (x:=b.loads[k]))
            clear hcl
            generalize b.loads[k]=x at *
            obtain ⟨pos,wt⟩:=x
            simp only at hx1 hx2 p1 p2 p3 p4 HEs HEn
            have c3:=HI.out.st.bm.cell 3
            simp only [zq1,zq2,zq3] at c3
            by_cases hE:si<pos∧pos<sk
            ·obtain ⟨d,hd⟩:∃ d,sk-pos=d:=⟨_,rfl⟩
             have e1:decide (si<pos)=true:=decide_eq_true hE.1
             have e2:decide (pos<sk)=true:=decide_eq_true hE.2
             have HT2:Hid (armTo b si sk true (re4 b i) (k+1)=armTo b si sk true (re4 b i) k+Zu l [wt,d]):=by
              have:=HOn.out _ (HEs.out d hE (by simpa using hd.symm))
              rw [Hl.out] at this
              unfold Hid armTo
              rw [Hl.out]
              exact this
             have v4:IntKind.i64.wrap (pos-sk) = -d:=(IntWalk.i64_in _ (by omega)).trans (by omega)
             have e3:decide (-d<0)=true:=decide_eq_true (by omega)
             have v5:IntKind.i64.wrap d=d:=IntWalk.i64_in _ (by omega)
             have v6:IntKind.i64.wrap (0 - -d)=d:=(IntWalk.i64_in _ (by omega)).trans (by omega)
             have e4:1≤d:=by omega
             have hs3:wt.natAbs≤1152921504606846976:=by omega
             have hs4:d.natAbs≤1152921504606846976:=by omega
             have l3:0<l:=by omega
             have l4:l≤1152921504606846976:=by omega
             clear hE hd HOn HNo HEs HEn
             obtain ⟨sb1,sA1,sl1,sc1,sb2,sA2,sl2,sc2,hB,hE⟩:=HI.out.sum
             have y0:=hB.cell 0
             have y1:=hB.cell 1
             have y2:=hB.cell 2
             have y3:=hB.cell 3
             simp only [zq1,zq2,zq3] at y0 y1 y2 y3
             have HE:=zh hE
             clear hB hE
             go_upto_region 37 with fail
             have uy0:=HeldB.cell y0
             have uy1:=HeldB.cell y1
             have uy2:=HeldB.cell y2
             have uy3:=HeldB.cell y3
             have uc3:=HeldB.cell c3
             have uhx2:=HeldB.cell hx2
             clear y0 y1 y2 y3 c3 hx2
             refine wp_region_grow 12 (fun jx => if jx=8 then some (gI [wt,d]) else if jx=10 then some (gEq (Zu l [wt,d]) (30)) else if jx=11 then some (gEq (armTo b si sk true (re4 b i) k+Zu l [wt,d]) (137726+31*(k+1))) else none) (by kernel_rfl) (by kernel_rfl) ?_
             simp only [zt1,zt2,zt3,zt4]
             refine wpG_quiet 8 (by kernel_rfl) (by rfl) (by decide) ?_
             simp only [zt1,zt2,zt3,zt4]
             repeat (go_big_quiet_step (fail))
             refine wpQuiet_nil ?_
             refine wpG_new rfl rfl (fun w1 hb1 _ => gI_new (T:=3) (l:=[wt,d]) (Nat.le_of_ble_eq_true rfl) (by go_simp)) ?_
             rintro _ ⟨g199,rfl⟩
             simp only [Act.put,zs1,zs2,zs3]
             refine wpG_quiet 1 (by kernel_rfl) (by rfl) (by decide) ?_
             simp only [zt1,zt2,zt3,zt4]
             repeat (go_big_quiet_step (fail))
             refine wpQuiet_nil ?_
             refine wpG_call rfl rfl ?_ ?_
             ·intro w1 hb1 hk
              have h199:IntsAt w1 w1.heap.size (.slice (some ⟨g199,0,none⟩) 2 2) [wt,d]:=hk 199 (of_decide_eq_true (by kernel_rfl))
              have hC:=rgPart l _ [wt,d] w1 h199 (Nat.le_of_ble_eq_true rfl) (tiny2 hs3 hs4) l3 l4
              exact ⟨134,#[.slice (some ⟨g199,0,none⟩) 2 2,.int .i64 l],by go_simp,Zg hC⟩
             rintro _ ⟨r201b1,r201A1,r201l1,r201c1,r201b2,r201A2,r201l2,r201c2,rfl⟩
             simp only [Act.put,zs1,zs2,zs3]
             refine wpG_call rfl rfl ?_ ?_
             ·intro w1 hb1 hk
              have h201:ExqAt w1 w1.heap.size (.agg #[.bool r201b1,.slice r201A1 r201l1 r201c1,.bool r201b2,.slice r201A2 r201l2 r201c2]) (Zu l [wt,d]) (30):=hk 201 (of_decide_eq_true (by kernel_rfl))
              have hC:=rgEPlus _ _ _ _ (137726+31*k) 30 w1 (HE.out.grow hb1) h201 (by omega)
              exact ⟨133,#[.agg #[.bool sb1,.slice sA1 sl1 sc1,.bool sb2,.slice sA2 sl2 sc2],.agg #[.bool r201b1,.slice r201A1 r201l1 r201c1,.bool r201b2,.slice r201A2 r201l2 r201c2]],by go_simp,Zg hC⟩
             rintro _ ⟨r202b1,r202A1,r202l1,r202c1,r202b2,r202A2,r202l2,r202c2,rfl⟩
             simp only [Act.put,zs1,zs2,zs3]
             refine Zc ?_
             intro w8 hb8 hF
             have h26:ExqAt w8 w8.heap.size (.agg #[.bool r202b1,.slice r202A1 r202l1 r202c1,.bool r202b2,.slice r202A2 r202l2 r202c2]) (armTo b si sk true (re4 b i) k+Zu l [wt,d]) (137726+31*(k+1)):=hF 202
             have HG:=HI.out.grow hb8
             obtain ⟨_,_,_,_,_,_,_,_,hD5,-⟩:=HG.sum
             have HI2:=zh (HG.put h26)
             have q0:=hD5.cell 0
             have q1:=hD5.cell 1
             have q2:=hD5.cell 2
             have q3:=hD5.cell 3
             simp only [zq1,zq2,zq3] at q0 q1 q2 q3
             have fz0:=hD5.frozen (0)
             have fz1:=hD5.frozen (1)
             have fz2:=hD5.frozen (2)
             have fz3:=hD5.frozen (3)
             clear hF h26 hD5 HG hb8 HE HI uy0 uy1 uy2 uy3 uc3 uhx2
             rw [← HT2.out] at HI2
             go_wp2_with fail
             clear q0 q1 q2 q3 fz0 fz1 fz2 fz3 HT2
             go_roundw
             case rel => exact ⟨k+1,by omega,by go_num,HI2⟩
             case measure => simp [intOf];omega
            ·have HT2:Hid (armTo b si sk true (re4 b i) (k+1)=armTo b si sk true (re4 b i) k):=HNo.out (HEn.out hE)
             have HI2:Hid (RcI w wr b #[.string b.name,.int .i64 b.len,.slice (some ⟨bs,os,none⟩) b.sup.length cs,.slice (some ⟨bl,ol,none⟩) b.loads.length cl,.int .i64 b.even] gm Bo (.slice Ao i co) i g8 (armTo b si sk true (re4 b i) (k+1)) (137726+31*(k+1))):=by
              rw [HT2.out]
              exact HI.out.more (by omega)
             have hc:decide (si<pos)=false∨decide (si<pos)=true∧decide (pos<sk)=false:=by
              by_cases h:si<pos
              ·exact .inr ⟨decide_eq_true h,decide_eq_false (fun h2 => hE ⟨h,h2⟩)⟩
              ·exact .inl (decide_eq_false h)
             clear hE HOn HNo HEs HEn HI HT2
             rcases hc with e1 | ⟨e1,e2⟩
             all_goals
              go_wp2_with fail
              go_roundw
              case rel => exact ⟨k+1,by omega,by go_num,HI2⟩
              case measure => simp [intOf];omega
           ·obtain rfl:k=b.loads.length:=by omega
            have HI2:Hid (RcI w wr b #[.string b.name,.int .i64 b.len,.slice (some ⟨bs,os,none⟩) b.sup.length cs,.slice Al b.loads.length cl,.int .i64 b.even] gm Bo (.slice Ao i co) i g8 (armTo b si sk true (re4 b i) b.loads.length) (138966)):=HI.out.more (by omega)
            clear HI
            obtain ⟨sb1,sA1,sl1,sc1,sb2,sA2,sl2,sc2,hB,hE⟩:=HI2.out.sum
            have y0:=hB.cell 0
            have y1:=hB.cell 1
            have y2:=hB.cell 2
            have y3:=hB.cell 3
            simp only [zq1,zq2,zq3] at y0 y1 y2 y3
            have HE:=zh hE
            clear hB hE
            have c3:=HI2.out.st.bm.cell 3
            simp only [zq1,zq2,zq3] at c3
            obtain ⟨ab1,aA1,al1,ac1,ab2,aA2,al2,ac2,a0,a1,a2,a3,aE⟩:=HI2.out.st.m.read (i:=p) hpn
            obtain ⟨db1,dA1,dl1,dc1,db2,dA2,dl2,dc2,d0,d1,d2,d3,dE⟩:=HI2.out.st.m.read (i:=i) hil
            have HA:=zh (aE _ rfl)
            have HD:=zh (dE _ rfl)
            have hs3:(1:Int).natAbs≤1152921504606846976:=by decide
            have l3:0<l:=by omega
            have l4:l≤1152921504606846976:=by omega
            clear aE dE
            go_upto_region 38 with fail
            clear c3
            have uy0:=HeldB.cell y0
            have uy1:=HeldB.cell y1
            have uy2:=HeldB.cell y2
            have uy3:=HeldB.cell y3
            have ua0:=HeldB.cell a0
            have ua1:=HeldB.cell a1
            have ua2:=HeldB.cell a2
            have ua3:=HeldB.cell a3
            have ud0:=HeldB.cell d0
            have ud1:=HeldB.cell d1
            have ud2:=HeldB.cell d2
            have ud3:=HeldB.cell d3
            clear y0 y1 y2 y3 a0 a1 a2 a3 d0 d1 d2 d3
            refine wp_region_grow 15 (fun jx => if jx=9 then some (gEq (Zx b p-Zx b i) (135061)) else if jx=10 then some (gI [1]) else if jx=12 then some (gEq (Zu l [1]) (30)) else if jx=13 then some (gEq ((Zx b p-Zx b i)*Zu l [1]) (135091)) else if jx=14 then some (gEq (armTo b si sk true (re4 b i) b.loads.length+(Zx b p-Zx b i)*Zu l [1]) (274058)) else none) (by kernel_rfl) (by kernel_rfl) ?_
            simp only [zt1,zt2,zt3,zt4]
            refine wpG_quiet 9 (by kernel_rfl) (by rfl) (by decide) ?_
            simp only [zt1,zt2,zt3,zt4]
            repeat (go_big_quiet_step (fail))
            refine wpQuiet_nil ?_
            refine wpG_call rfl rfl ?_ ?_
            ·intro w1 hb1 hk
             have hC:=rgELess _ _ _ _ 67530 67530 w1 (HA.out.grow hb1) (HD.out.grow hb1) (by decide)
             exact ⟨136,#[.agg #[.bool ab1,.slice aA1 al1 ac1,.bool ab2,.slice aA2 al2 ac2],.agg #[.bool db1,.slice dA1 dl1 dc1,.bool db2,.slice dA2 dl2 dc2]],by go_simp,Zg hC⟩
            rintro _ ⟨r212b1,r212A1,r212l1,r212c1,r212b2,r212A2,r212l2,r212c2,rfl⟩
            simp only [Act.put,zs1,zs2,zs3]
            refine wpG_new rfl rfl (fun w1 hb1 _ => gI_new (T:=3) (l:=[1]) (Nat.le_of_ble_eq_true rfl) (by go_simp)) ?_
            rintro _ ⟨g213,rfl⟩
            simp only [Act.put,zs1,zs2,zs3]
            refine wpG_quiet 1 (by kernel_rfl) (by rfl) (by decide) ?_
            simp only [zt1,zt2,zt3,zt4]
            repeat (go_big_quiet_step (fail))
            refine wpQuiet_nil ?_
            refine wpG_call rfl rfl ?_ ?_
            ·intro w1 hb1 hk
             have h213:IntsAt w1 w1.heap.size (.slice (some ⟨g213,0,none⟩) 1 1) [1]:=hk 213 (of_decide_eq_true (by kernel_rfl))
             have hC:=rgPart l _ [1] w1 h213 (Nat.le_of_ble_eq_true rfl) (tiny1 hs3) l3 l4
             exact ⟨134,#[.slice (some ⟨g213,0,none⟩) 1 1,.int .i64 l],by go_simp,Zg hC⟩
            rintro _ ⟨r215b1,r215A1,r215l1,r215c1,r215b2,r215A2,r215l2,r215c2,rfl⟩
            simp only [Act.put,zs1,zs2,zs3]
            refine wpG_call rfl rfl ?_ ?_
            ·intro w1 hb1 hk
             have h212:ExqAt w1 w1.heap.size (.agg #[.bool r212b1,.slice r212A1 r212l1 r212c1,.bool r212b2,.slice r212A2 r212l2 r212c2]) (Zx b p-Zx b i) (135061):=hk 212 (of_decide_eq_true (by kernel_rfl))
             have h215:ExqAt w1 w1.heap.size (.agg #[.bool r215b1,.slice r215A1 r215l1 r215c1,.bool r215b2,.slice r215A2 r215l2 r215c2]) (Zu l [1]) (30):=hk 215 (of_decide_eq_true (by kernel_rfl))
             have hC:=rgETimes _ _ _ _ 135061 30 w1 h212 h215 (by decide)
             exact ⟨135,#[.agg #[.bool r212b1,.slice r212A1 r212l1 r212c1,.bool r212b2,.slice r212A2 r212l2 r212c2],.agg #[.bool r215b1,.slice r215A1 r215l1 r215c1,.bool r215b2,.slice r215A2 r215l2 r215c2]],by go_simp,Zg hC⟩
            rintro _ ⟨r216b1,r216A1,r216l1,r216c1,r216b2,r216A2,r216l2,r216c2,rfl⟩
            simp only [Act.put,zs1,zs2,zs3]
            refine wpG_call rfl rfl ?_ ?_
            ·intro w1 hb1 hk
             have h216:ExqAt w1 w1.heap.size (.agg #[.bool r216b1,.slice r216A1 r216l1 r216c1,.bool r216b2,.slice r216A2 r216l2 r216c2]) ((Zx b p-Zx b i)*Zu l [1]) (135091):=hk 216 (of_decide_eq_true (by kernel_rfl))
             have hC:=rgEPlus _ _ _ _ 138966 135091 w1 (HE.out.grow hb1) h216 (by decide)
             exact ⟨133,#[.agg #[.bool sb1,.slice sA1 sl1 sc1,.bool sb2,.slice sA2 sl2 sc2],.agg #[.bool r216b1,.slice r216A1 r216l1 r216c1,.bool r216b2,.slice r216A2 r216l2 r216c2]],by go_simp,Zg hC⟩
            rintro _ ⟨r217b1,r217A1,r217l1,r217c1,r217b2,r217A2,r217l2,r217c2,rfl⟩
            simp only [Act.put,zs1,zs2,zs3]
            refine Zc ?_
            intro w8 hb8 hF
            have h26:ExqAt w8 w8.heap.size (.agg #[.bool r217b1,.slice r217A1 r217l1 r217c1,.bool r217b2,.slice r217A2 r217l2 r217c2]) (armTo b si sk true (re4 b i) b.loads.length+(Zx b p-Zx b i)*Zu l [1]) (274058):=hF 217
            have HG:=HI2.out.grow hb8
            obtain ⟨_,_,_,_,_,_,_,_,hD5,-⟩:=HG.sum
            have HI3:=zh (HG.put h26)
            have q0:=hD5.cell 0
            have q1:=hD5.cell 1
            have q2:=hD5.cell 2
            have q3:=hD5.cell 3
            simp only [zq1,zq2,zq3] at q0 q1 q2 q3
            have fz0:=hD5.frozen (0)
            have fz1:=hD5.frozen (1)
            have fz2:=hD5.frozen (2)
            have fz3:=hD5.frozen (3)
            clear hF h26 hD5 HG hb8 HE HI2 uy0 uy1 uy2 uy3 ua0 ua1 ua2 ua3 ud0 ud1 ud2 ud3 HA HD
            have HQ1:Hid (armTo b si sk true (re4 b i) b.loads.length+(Zx b p-Zx b i)*Zu l [1]=sideQ b i 2):=by
             have:=arm_end b si sk true (Zx b i) (Zx b p) (re4 b i)
             rw [Hl.out] at this
             exact this.trans HRe.out
            rw [HQ1.out] at HI3
            clear HQ1
            go_wp2_with fail
            clear q0 q1 q2 q3 fz0 fz1 fz2 fz3
            go_roundw
            case rel => exact ⟨2,by decide,rfl,HI3⟩
            case measure => simp [intOf]
         ·skip
          have es:((0+1:Nat):Int)=1:=rfl
          rw [es]
          clear es hs
          have HI2:Hid (RcI w wr b #[.string b.name,.int .i64 b.len,.slice (some ⟨bs,os,none⟩) b.sup.length cs,.slice Al b.loads.length cl,.int .i64 b.even] gm Bo (.slice Ao i co) i g8 (sideQ b i 2) (1332+136363*2)):=by
           have e:re4 b i=re5 b i:=by unfold re5;rw [if_neg hi0]
           exact (HI.out.is (q':=sideQ b i 2) e).more (by decide)
          clear HI
          have v0:IntKind.i64.wrap ((i:Int)-1)=(i:Int)-1:=IntWalk.i64_in _ (by omega)
          have v1:IntKind.i64.wrap ((i:Int)+1)=(b.sup.length:Int):=(IntWalk.i64_in _ (by omega)).trans (by omega)
          have d1:decide ((b.sup.length:Int)<0)=false:=decide_eq_false (by omega)
          clear hi0
          go_wp2_with fail
          go_roundw
          case rel => exact ⟨2,by decide,rfl,HI2⟩
          case measure => simp [intOf]
        ·obtain rfl:s=0:=by omega
         have es:((0+1+1:Nat):Int)=2:=rfl
         rw [es]
         have HI2:Hid (RcI w wr b #[.string b.name,.int .i64 b.len,.slice (some ⟨bs,os,none⟩) b.sup.length cs,.slice Al b.loads.length cl,.int .i64 b.even] gm Bo (.slice Ao i co) i g8 (re5 b i) (274058)):=HI.out
         clear es hs HI
         obtain ⟨sb1,sA1,sl1,sc1,sb2,sA2,sl2,sc2,hB,hE⟩:=HI2.out.sum
         have y0:=hB.cell 0
         have y1:=hB.cell 1
         have y2:=hB.cell 2
         have y3:=hB.cell 3
         simp only [zq1,zq2,zq3] at y0 y1 y2 y3
         have HE:=zh hE
         clear hB hE
         go_wp2_with fail
         refine (rgLowerK _ (re5 b i) 274058 wr HE.out (by decide)).mono ?_
         rintro e w9 ⟨v9,rfl,hb9,hE9⟩
         obtain ⟨xb1,xA1,xl1,xc1,xb2,xA2,xl2,xc2,_,_,rfl,-⟩:=exq_form hE9
         obtain ⟨iE,hiE,hzE0,hzE1,hzE2⟩:=info_parts info_exq
         have hba:Below w9.heap.size w9 (w9.alloc (.cells #[.bool xb1,.slice xA1 xl1 xc1,.bool xb2,.slice xA2 xl2 xc2] 175)):=(Below.refl _ _).alloc (Nat.le_refl _) _
         have HQ9:=zh ((HI2.out.st.grow hb9).grow hba)
         have HE9:=zh ((hE9.more (K':=280000) (by decide)).grow hba)
         obtain ⟨es,h1,h2,h3⟩:=HQ9.out.out
         have H1:=zh h1
         have HOa:=zh h2
         have H3:=zh h3
         have hnew:=World.news_of_block (Blk.new w9 175 #[.bool xb1,.slice xA1 xl1 xc1,.bool xb2,.slice xA2 xl2 xc2])
         have Hnew:=zh hnew
         have hbl:=HQ9.out.bl
         clear h1 h2 h3 hnew hE9 hb9 hba HI2 HE y0 y1 y2 y3
         go_wp2_with (at_builtin;refine wpList_append_own _ rfl _ _ 132 rfl Bo 175 iE (.agg #[.bool false,.slice none 0 0,.bool false,.slice none 0 0]) 4 64 Tryz.underlying132 hiE hzE0 hzE1 hzE2 rfl (by decide) _ _ _ rfl HOa.out ⟨w9.heap.size,0,none⟩ 1 1 [.bool xb1,.slice xA1 xl1 xc1,.bool xb2,.slice xA2 xl2 xc2] rfl rfl Hnew.out (by simp [Value.oneCell']) (by unfold maxLen;omega) (by omega) hbl ?_;intro v' w1 hown' hgrow _;obtain ⟨g',cap',rfl⟩:=ownsRow_succ hown')
         have HQ10:=zh (HQ9.out.push H1.out HOa.out H3.out HE9.out hgrow hown')
         clear hown' hgrow HOa H1 H3 HE9 HQ9 Hnew hbl hiE hzE0 hzE1 hzE2
         go_roundg (b.sup.length-(i+1))
         case rel => exact ⟨i+1,_,_,by omega,by go_num,rfl,HQ10⟩
         case measure => have:=Hgk.out;omega
  ·obtain rfl:i=b.sup.length:=by omega
   have HR:=zh HQ.out.out.eqs
   have HBE:=zh HQ.out.bel
   have HL:Hid ((List.range b.sup.length).map (re5 b)=reactL b):=List.map_congr_left fun j hj => re_is b Hb.out.inc j (List.mem_range.1 hj)
   rw [HL.out] at HR
   clear HQ
   go_wp2_with fail
   refine bodyPost_ret (results_tmp rfl _ _ _) (by rfl) ?_
   exact ⟨HBE.out,_,rfl,HR.out⟩
end Go.Proofs.YtfhmbechennkbaaGreatDoor
