/- Parts of the proof, laid into one text: RgY, RgX. -/
import Derived.Test.YtfhmbechennkbaaGreatDoorR5
namespace Go.Proofs.YtfhmbechennkbaaGreatDoor
set_option maxRecDepth 100000
set_option maxHeartbeats 40000000
open Go.RowKit Go.Shelf
theorem mom_zero (b:BeamT):Zx b 0=hangR b:=if_pos rfl
theorem mom_last {b:BeamT} (hb:BeamOk b) (ht:tiltOk b=true):Zx b (b.sup.length-1)=hangR (turnedT b):=by
 have h1:=hb.sup1
 unfold Zx
 by_cases h:b.sup.length=1
 ·rw [if_pos (by omega)]
  unfold tiltOk at ht
  rw [if_pos h] at ht
  have:=of_decide_eq_true ht
  grind
 ·rw [if_neg (by omega),show b.sup.length-1-(b.sup.length-1)=0 by omega]
  rfl
theorem diag_pos {b:BeamT} (hb:BeamOk b) {i:Nat} (h0:1≤i) (hi:i+1<b.sup.length):0<diagR b i:=by
 have h1:=diag_ge hb i h0 hi
 have h2:=cast_ge (span_ge hb (i:=i+1) (by omega) hi).1
 have h3:(0:Rat)<1:=by decide
 grind
theorem diag_nz {b:BeamT} (hb:BeamOk b):∀ i,1≤i→i+1<b.sup.length→diagR b i≠0:=fun i h0 hi => by
 have:=diag_pos hb h0 hi
 grind
theorem mom_prev {b:BeamT} (hb:BeamOk b) {i:Nat} (h1:1≤i) (h2:i+1<b.sup.length):(pqR b i).1-(pqR b i).2*Zx b (i+1)=Zx b i:=by
 have h:=bak_is b (diag_nz hb) (b.sup.length-1-(i+1)) (by omega)
 have h':=bak_is b (diag_nz hb) (b.sup.length-1-(i+1)+1) (by omega)
 unfold Zx
 rw [if_neg (by omega),if_neg (by omega),show b.sup.length-1-i=b.sup.length-1-(i+1)+1 by omega,← h,← h',bakR,show b.sup.length-2-(b.sup.length-1-(i+1))=i by omega]
theorem mid_pos {b:BeamT} (hb:BeamOk b) {i:Nat} (hi:i+2<b.sup.length):0<midR b (pqR b i).2 (i+1):=by
 rw [(pq_is b (diag_nz hb) i hi).1]
 exact diag_pos hb (by omega) (by omega)
theorem prod_one (k:Int):Zu 1 [k]=(k:Rat):=by
 unfold Zu
 rw [show prodZ [k]=k by simp [prodZ],Rat.divInt_eq_div,Rat.intCast_one]
 grind
theorem prod_two1 (k m:Int):Zu 1 [k,m]=((k*m:Int):Rat):=by
 unfold Zu
 rw [prodZ_two,Rat.divInt_eq_div,Rat.intCast_one]
 grind
theorem rhs_is (b:BeamT) (k:Nat):(0:Rat)-(sideR b (supAt b k) (supAt b (k+1)) true+sideR b (supAt b (k+1)) (supAt b (k+2)) false)=rhs0 b (k+1):=by
 show _=((0:Int):Rat)-sideR b (supAt b k) (supAt b (k+1)) true-sideR b (supAt b (k+1)) (supAt b (k+2)) false
 generalize sideR b (supAt b k) (supAt b (k+1)) true=x
 generalize sideR b (supAt b (k+1)) (supAt b (k+2)) false=y
 grind
theorem pq_fst (b:BeamT) (k:Nat):(rhs0 b (k+1)-Zu 1 [spanK b (k+1)]*(pqR b k).1) / midR b (pqR b k).2 (k+1)=(pqR b (k+1)).1:=by
 rw [prod_one]
 rfl
theorem pq_snd (b:BeamT) (k:Nat):Zu 1 [spanK b (k+2)] / midR b (pqR b k).2 (k+1)=(pqR b (k+1)).2:=by
 rw [prod_one]
 rfl
def outF (b:BeamT) (m:Nat):Nat→Option Rat:=fun j => if j=0∨b.sup.length≤j+1+m then some (Zx b j) else none
def pF (b:BeamT) (k:Nat):Nat→Option Rat:=fun j => if j≤k then some (pqR b j).1 else none
def qF (b:BeamT) (k:Nat):Nat→Option Rat:=fun j => if j≤k then some (pqR b j).2 else none
section
variable {w w':World} {g n:Nat} {f:Nat→Option Rat} {K:Nat}
def xKind (w:World) (D o:Nat):Prop:=∃ b1 A1 l1 c1 b2 A2 l2 c2,w.cell? ⟨D,o,none⟩=some (.bool b1)∧w.cell? ⟨D,o+1,none⟩=some (.slice A1 l1 c1)∧w.cell? ⟨D,o+2,none⟩=some (.bool b2)∧w.cell? ⟨D,o+3,none⟩=some (.slice A2 l2 c2)
theorem DgTo.kind {B D o:Nat} {v:Value} {x k:Nat} (h:DgTo w B v x k) (hk:xKind w D o) (x0 x1 x2 x3:Value):DgTo ((((w.setCell ⟨D,o,none⟩ x0).setCell ⟨D,o+1,none⟩ x1).setCell ⟨D,o+2,none⟩ x2).setCell ⟨D,o+3,none⟩ x3) B v x k:=by
 obtain ⟨b1,A1,l1,c1,b2,A2,l2,c2,k0,k1,k2,k3⟩:=hk
 exact DgTo.set4 h k0 k1 k2 k3 (fun z => by simp) (fun z => by simp) (fun z => by simp) (fun z => by simp) x0 x1 x2 x3
theorem ExqAt.kind {D o:Nat} {v:Value} {q:Rat} {K':Nat} (h:ExqAt w w.heap.size v q K') (hk:xKind w D o) (x0 x1 x2 x3:Value) :
  ExqAt ((((w.setCell ⟨D,o,none⟩ x0).setCell ⟨D,o+1,none⟩ x1).setCell ⟨D,o+2,none⟩ x2).setCell ⟨D,o+3,none⟩ x3) ((((w.setCell ⟨D,o,none⟩ x0).setCell ⟨D,o+1,none⟩ x1).setCell ⟨D,o+2,none⟩ x2).setCell ⟨D,o+3,none⟩ x3).heap.size v q K':=by
 obtain ⟨_,_,_,_,N,E,e,h4,h5,h6⟩:=h
 have hset:=fun {v:Value} {x m:Nat} (h:DgTo w w.heap.size v x m) => DgTo.mono (DgTo.kind h hk x0 x1 x2 x3) (show w.heap.size≤((((w.setCell ⟨D,o,none⟩ x0).setCell ⟨D,o+1,none⟩ x1).setCell ⟨D,o+2,none⟩ x2).setCell ⟨D,o+3,none⟩ x3).heap.size by simp [World.setCell])
 exact ⟨_,_,_,_,N,E,e,⟨h4.1,hset h4.2⟩,⟨h5.1,hset h5.2⟩,h6⟩
theorem EqRow.kind (h:EqRow w g n f K) {i:Nat} (hi:i<n):xKind w g (i*4):=by
 obtain ⟨b1,A1,l1,c1,b2,A2,l2,c2,k0,k1,k2,k3,-⟩:=h.read hi
 exact ⟨b1,A1,l1,c1,b2,A2,l2,c2,k0,k1,k2,k3⟩
theorem EqBox.kind {D:Nat} {q:Rat} (h:EqBox w D q K):xKind w D 0:=by
 obtain ⟨b1,A1,l1,c1,b2,A2,l2,c2,hD,-⟩:=h
 exact ⟨b1,A1,l1,c1,b2,A2,l2,c2,hD.cell 0,hD.cell 1,hD.cell 2,hD.cell 3⟩
theorem Blk.kind {D:Nat} {b1:Bool} {A1:Option Addr} {l1 c1:Nat} {b2:Bool} {A2:Option Addr} {l2 c2:Nat} (hD:Blk w D 175 #[.bool b1,.slice A1 l1 c1,.bool b2,.slice A2 l2 c2]):xKind w D 0 :=
 ⟨b1,A1,l1,c1,b2,A2,l2,c2,hD.cell 0,hD.cell 1,hD.cell 2,hD.cell 3⟩
theorem EqRow.far4 (h:EqRow w g n f K) {D o:Nat} (hg:g≠D) (hk:xKind w D o) (x0 x1 x2 x3:Value):EqRow ((((w.setCell ⟨D,o,none⟩ x0).setCell ⟨D,o+1,none⟩ x1).setCell ⟨D,o+2,none⟩ x2).setCell ⟨D,o+3,none⟩ x3) g n f K:=by
 obtain ⟨es,h1,h2,h3⟩:=h
 exact ⟨es,h1,h2.far4o hg o x0 x1 x2 x3,fun j hj q hq => (h3 j hj q hq).kind hk x0 x1 x2 x3⟩
theorem EqBox.far4 {q:Rat} (h:EqBox w g q K) {D o:Nat} (hg:g≠D) (hk:xKind w D o) (x0 x1 x2 x3:Value):EqBox ((((w.setCell ⟨D,o,none⟩ x0).setCell ⟨D,o+1,none⟩ x1).setCell ⟨D,o+2,none⟩ x2).setCell ⟨D,o+3,none⟩ x3) g q K:=by
 obtain ⟨b1,A1,l1,c1,b2,A2,l2,c2,h1,h2⟩:=h
 exact ⟨b1,A1,l1,c1,b2,A2,l2,c2,h1.far4o hg o x0 x1 x2 x3,h2.kind hk x0 x1 x2 x3⟩
end
structure MoQ (w W:World) (b:BeamT) (bx:Array Value) (g7 g8 g9:Nat) (f7 f8 f9:Nat→Option Rat):Prop where
 bm:Blk W w.heap.size 122 bx
 r7:EqRow W g7 b.sup.length f7 67530
 r8:EqRow W g8 b.sup.length f8 67530
 r9:EqRow W g9 b.sup.length f9 51
 bel:Below w.heap.size w W
 b7:w.heap.size<g7
 b8:w.heap.size<g8
 b9:w.heap.size<g9
 n78:g7≠g8
 n79:g7≠g9
 n89:g8≠g9
section
variable {w W W':World} {b:BeamT} {bx:Array Value} {g7 g8 g9:Nat} {f7 f8 f9:Nat→Option Rat}
theorem MoQ.grow (h:MoQ w W b bx g7 g8 g9 f7 f8 f9) (hb:Below W.heap.size W W'):MoQ w W' b bx g7 g8 g9 f7 f8 f9 :=
 ⟨h.bm.below hb h.bm.lt,h.r7.grow hb,h.r8.grow hb,h.r9.grow hb,h.bel.trans (hb.mono h.bel.size),h.b7,h.b8,h.b9,h.n78,h.n79,h.n89⟩
theorem MoQ.weak (h:MoQ w W b bx g7 g8 g9 f7 f8 f9) {f7' f8' f9':Nat→Option Rat} (h7:∀ j q,j<b.sup.length→f7' j=some q→f7 j=some q) (h8:∀ j q,j<b.sup.length→f8' j=some q→f8 j=some q) (h9:∀ j q,j<b.sup.length→f9' j=some q→f9 j=some q):MoQ w W b bx g7 g8 g9 f7' f8' f9' :=
 ⟨h.bm,h.r7.weak h7,h.r8.weak h8,h.r9.weak h9,h.bel,h.b7,h.b8,h.b9,h.n78,h.n79,h.n89⟩
variable {b1:Bool} {A1:Option Addr} {l1 c1:Nat} {b2:Bool} {A2:Option Addr} {l2 c2:Nat} {q:Rat}
theorem MoQ.put7 (h:MoQ w W b bx g7 g8 g9 f7 f8 f9) {i o:Nat} (hi:i<b.sup.length) (ho:i*4=o) (hE:ExqAt W W.heap.size (.agg #[.bool b1,.slice A1 l1 c1,.bool b2,.slice A2 l2 c2]) q 67530) :
  MoQ w ((((W.setCell ⟨g7,o,none⟩ (.bool b1)).setCell ⟨g7,o+1,none⟩ (.slice A1 l1 c1)).setCell ⟨g7,o+2,none⟩ (.bool b2)).setCell ⟨g7,o+3,none⟩ (.slice A2 l2 c2)) b bx g7 g8 g9 (putQ f7 i q) f8 f9:=by
 subst ho
 have hk:=h.r7.kind hi
 have h1:=h.b7
 have h2:=h.n78
 have h3:=h.n79
 exact ⟨h.bm.far4o (by omega) _ _ _ _ _,h.r7.write hi hE,h.r8.far4 (by omega) hk _ _ _ _,h.r9.far4 (by omega) hk _ _ _ _,below_set4 h.bel (by omega) _ _ _ _ _,h.b7,h.b8,h.b9,h.n78,h.n79,h.n89⟩
theorem MoQ.put8 (h:MoQ w W b bx g7 g8 g9 f7 f8 f9) {i o:Nat} (hi:i<b.sup.length) (ho:i*4=o) (hE:ExqAt W W.heap.size (.agg #[.bool b1,.slice A1 l1 c1,.bool b2,.slice A2 l2 c2]) q 67530) :
  MoQ w ((((W.setCell ⟨g8,o,none⟩ (.bool b1)).setCell ⟨g8,o+1,none⟩ (.slice A1 l1 c1)).setCell ⟨g8,o+2,none⟩ (.bool b2)).setCell ⟨g8,o+3,none⟩ (.slice A2 l2 c2)) b bx g7 g8 g9 f7 (putQ f8 i q) f9:=by
 subst ho
 have hk:=h.r8.kind hi
 have h1:=h.b8
 have h2:=h.n78
 have h3:=h.n89
 exact ⟨h.bm.far4o (by omega) _ _ _ _ _,h.r7.far4 (by omega) hk _ _ _ _,h.r8.write hi hE,h.r9.far4 (by omega) hk _ _ _ _,below_set4 h.bel (by omega) _ _ _ _ _,h.b7,h.b8,h.b9,h.n78,h.n79,h.n89⟩
theorem MoQ.put9 (h:MoQ w W b bx g7 g8 g9 f7 f8 f9) {i o:Nat} (hi:i<b.sup.length) (ho:i*4=o) (hE:ExqAt W W.heap.size (.agg #[.bool b1,.slice A1 l1 c1,.bool b2,.slice A2 l2 c2]) q 51) :
  MoQ w ((((W.setCell ⟨g9,o,none⟩ (.bool b1)).setCell ⟨g9,o+1,none⟩ (.slice A1 l1 c1)).setCell ⟨g9,o+2,none⟩ (.bool b2)).setCell ⟨g9,o+3,none⟩ (.slice A2 l2 c2)) b bx g7 g8 g9 f7 f8 (putQ f9 i q):=by
 subst ho
 have hk:=h.r9.kind hi
 have h1:=h.b9
 have h2:=h.n79
 have h3:=h.n89
 exact ⟨h.bm.far4o (by omega) _ _ _ _ _,h.r7.far4 (by omega) hk _ _ _ _,h.r8.far4 (by omega) hk _ _ _ _,h.r9.write hi hE,below_set4 h.bel (by omega) _ _ _ _ _,h.b7,h.b8,h.b9,h.n78,h.n79,h.n89⟩
theorem MoQ.far (h:MoQ w W b bx g7 g8 g9 f7 f8 f9) {D:Nat} (h0:w.heap.size<D) (h1:g7≠D) (h2:g8≠D) (h3:g9≠D) (hk:xKind W D 0) (x0 x1 x2 x3:Value) :
  MoQ w ((((W.setCell ⟨D,0,none⟩ x0).setCell ⟨D,1,none⟩ x1).setCell ⟨D,2,none⟩ x2).setCell ⟨D,3,none⟩ x3) b bx g7 g8 g9 f7 f8 f9 :=
 ⟨h.bm.far4o (by omega) 0 _ _ _ _,h.r7.far4 h1 hk _ _ _ _,h.r8.far4 h2 hk _ _ _ _,h.r9.far4 h3 hk _ _ _ _,below_set4 h.bel (by omega) 0 _ _ _ _,h.b7,h.b8,h.b9,h.n78,h.n79,h.n89⟩
end
def MomQPost (b:BeamT) (w:World) (e:Ending) (w':World):Prop:=Below w.heap.size w w'∧∃ g,e = .returned (.slice (some ⟨g,0,none⟩) b.sup.length b.sup.length)∧EqRow w' g b.sup.length (fun j => some (Zx b j)) 67530
theorem info_exq:(Tryz.prog.info? 175).map (fun i => (i.zero,i.size,i.bytes))=some (some (.agg #[.bool false,.slice none 0 0,.bool false,.slice none 0 0]),4,64):=by kernel_rfl
theorem turned_sup0 {b:BeamT} (hb:BeamOk b):supAt (turnedT b) 0=b.len-supAt b (b.sup.length-1):=by
 have h1:=hb.sup1
 unfold supAt turnedT
 simp only [List.getD_eq_getElem?_getD,List.getElem?_map]
 rw [List.getElem?_reverse (by omega),Nat.sub_zero,List.getElem?_eq_getElem (by omega)]
 rfl
theorem hang_turned {b:BeamT} (hb:BeamOk b):(0:Rat)-leftR (turnedT b) (b.len-supAt b (b.sup.length-1))=hangR (turnedT b):=by
 rw [hang_left,turned_sup0 hb]
 rfl
theorem mom_fit {b:BeamT} (hb:BeamOk b) {i:Nat} (hi:i<b.sup.length):fits (Zx b i) 50647:=mom_fits2 hb hi
theorem tiny1 {x:Int} (h1:x.natAbs≤1152921504606846976):∀ z ∈ [x],z.natAbs≤1152921504606846976:=fun z hz => by
 simp at hz
 rw [hz]
 exact h1
theorem rgMoments (v:Value) (b:BeamT) (w:World) (hv:BeamAt w w.heap.size v b) (hb:BeamOk b) (ht:tiltOk b=true) (hT:∀ (u:Value) (w1:World),BeamAt w1 w1.heap.size u b→Calls Tryz.prog 204 #[u] w1 (TurnedPost b w1)) :
  Calls Tryz.prog 131 #[v] w (MomQPost b w):=by
 have HV0:=hv
 obtain ⟨As,cs,Al,cl,rfl,hS,-⟩:=hv
 obtain ⟨_,_,e,_,hcs,hSc⟩:=hS.open_
 injection e with e1 _ e2
 subst e1 e2
 have h1:=hb.sup1
 have h4:=hb.sup 0 h1.1
 have h5:=hb.sup (b.sup.length-1) (by omega)
 unfold maxLen at hcs
 obtain ⟨bs,os,rfl,hbs,hSx⟩:=hSc 0 h1.1
 have HSx:Hid (∀ j,j<b.sup.length→w.cell? ⟨bs,os+j,none⟩=some (.int .i64 (supAt b j))):=fun j hj => by
  have h:=hSx j hj
  unfold supAt
  rw [List.getD_eq_getElem?_getD,List.getElem?_eq_getElem hj]
  exact h
 have Hb:=zh hb
 have HTi:=zh ht
 have HT:=zh hT
 have HA0:=zh h4
 have HA1:=zh h5
 have h5l:=hb.len.2
 have HbW:=zh ((Below.refl _ w).alloc (Nat.le_refl _) (.cells #[.string b.name,.int .i64 b.len,.slice (some ⟨bs,os,none⟩) b.sup.length cs,.slice Al b.loads.length cl,.int .i64 b.even] 122))
 have HV:=zh (HV0.grow HbW.out)
 have HVw:=zh HV0
 have HB1:=zh (Blk.new w 122 #[.string b.name,.int .i64 b.len,.slice (some ⟨bs,os,none⟩) b.sup.length cs,.slice Al b.loads.length cl,.int .i64 b.even])
 have z0:=(HbW.out.cell (p:=⟨bs,os+0,none⟩) hbs).trans (HSx.out 0 h1.1)
 rw [Nat.add_zero] at z0
 have s0:(0:Int)<(b.sup.length:Int):=by omega
 obtain ⟨s3,s1⟩:=h1
 clear hSc hb hS hT HV0 h4 h5 hSx ht
 go_enter Tryz.func131,Tryz.ntmps131
 go_upto_region 1 with fail
 generalize w.alloc (.cells #[.string b.name,.int .i64 b.len,.slice (some ⟨bs,os,none⟩) b.sup.length cs,.slice Al b.loads.length cl,.int .i64 b.even] 122)=W1 at *
 have y0:=HB1.out.cell 0
 have y1:=HB1.out.cell 1
 have y2:=HB1.out.cell 2
 have y3:=HB1.out.cell 3
 have y4:=HB1.out.cell 4
 simp only [zq1,zq2,zq3] at y0 y1 y2 y3 y4
 generalize hsa:supAt b 0=sa at *
 have HSa:=zh hsa
 clear hsa
 go_upto_region 3 with fail
 have uy0:=HeldB.cell y0
 have uy1:=HeldB.cell y1
 have uy2:=HeldB.cell y2
 have uy3:=HeldB.cell y3
 have uy4:=HeldB.cell y4
 have uz0:=HeldB.cell z0
 clear y0 y1 y2 y3 y4 z0
 refine wp_region_grow 8 (fun jx => if jx=0 then some (gEq (0) (30)) else if jx=5 then some (gEq (leftR b sa) (1270)) else if jx=6 then some (gEq (0-leftR b sa) (1301)) else if jx=7 then some (gAq W1.heap.size) else none) (by kernel_rfl) (by kernel_rfl) ?_
 simp only [zt1,zt2,zt3,zt4]
 refine wpG_call rfl rfl ?_ ?_
 ·intro w1 hb1 hk
  have hC:=rgZero w1
  exact ⟨132,#[],by go_simp,Zg hC⟩
 rintro _ ⟨r20b1,r20A1,r20l1,r20c1,r20b2,r20A2,r20l2,r20c2,rfl⟩
 simp only [Act.put,zs1,zs2,zs3]
 refine wpG_quiet 4 (by kernel_rfl) (by rfl) (by decide) ?_
 simp only [zt1,zt2,zt3,zt4]
 repeat (go_big_quiet_step (fail))
 refine wpQuiet_nil ?_
 refine wpG_call rfl rfl ?_ ?_
 ·intro w1 hb1 hk
  have hC:=rgLeft _ b sa w1 (HV.out.grow hb1) Hb.out HA0.out.1 HA0.out.2
  exact ⟨168,#[.agg #[.string b.name,.int .i64 b.len,.slice (some ⟨bs,os,none⟩) b.sup.length cs,.slice Al b.loads.length cl,.int .i64 b.even],.int .i64 sa],by go_simp,Zg hC⟩
 rintro _ ⟨r25b1,r25A1,r25l1,r25c1,r25b2,r25A2,r25l2,r25c2,rfl⟩
 simp only [Act.put,zs1,zs2,zs3]
 refine wpG_call rfl rfl ?_ ?_
 ·intro w1 hb1 hk
  have h20:ExqAt w1 w1.heap.size (.agg #[.bool r20b1,.slice r20A1 r20l1 r20c1,.bool r20b2,.slice r20A2 r20l2 r20c2]) (0) (30):=hk 20 (of_decide_eq_true (by kernel_rfl))
  have h25:ExqAt w1 w1.heap.size (.agg #[.bool r25b1,.slice r25A1 r25l1 r25c1,.bool r25b2,.slice r25A2 r25l2 r25c2]) (leftR b sa) (1270):=hk 25 (of_decide_eq_true (by kernel_rfl))
  have hC:=rgELess _ _ 0 (leftR b sa) 30 1270 w1 h20 h25 (by decide)
  exact ⟨136,#[.agg #[.bool r20b1,.slice r20A1 r20l1 r20c1,.bool r20b2,.slice r20A2 r20l2 r20c2],.agg #[.bool r25b1,.slice r25A1 r25l1 r25c1,.bool r25b2,.slice r25A2 r25l2 r25c2]],by go_simp,Zg hC⟩
 rintro _ ⟨r26b1,r26A1,r26l1,r26c1,r26b2,r26A2,r26l2,r26c2,rfl⟩
 simp only [Act.put,zs1,zs2,zs3]
 refine wpG_new rfl rfl (fun w1 hb1 _ => gAq_new hb1.size (by go_simp)) ?_
 rintro _ ⟨g5,rfl⟩
 simp only [Act.put,zs1,zs2,zs3]
 refine Zc ?_
 intro w8 hb8 hF
 have h26:ExqAt w8 w8.heap.size (.agg #[.bool r26b1,.slice r26A1 r26l1 r26c1,.bool r26b2,.slice r26A2 r26l2 r26c2]) (0-leftR b sa) 1301:=hF 26
 have h5:AtBoxQ W1.heap.size (.pointer (some ⟨g5,0,none⟩)) w8:=hF 5
 obtain ⟨g5',e5,hg5,hD5⟩:=h5
 injection e5 with e5
 injection e5 with e5
 injection e5 with e5 _ _
 subst e5
 have q0:=hD5.cell 0
 have q1:=hD5.cell 1
 have q2:=hD5.cell 2
 have q3:=hD5.cell 3
 simp only [zq1,zq2,zq3] at q0 q1 q2 q3
 have fz0:=hD5.frozen (0)
 have fz1:=hD5.frozen (1)
 have fz2:=hD5.frozen (2)
 have fz3:=hD5.frozen (3)
 have hEq:(0:Rat)-leftR b sa=hangR b:=by rw [hang_left,HSa.out];rfl
 rw [hEq] at h26
 have HN5:=zh (EqBox.first hD5 h26)
 have HB8:=zh (HbW.out.trans (hb8.mono HbW.out.size))
 have hlt:w.heap.size<W1.heap.size:=HB1.out.lt
 have HB9:=zh ((HB1.out.below hb8 HB1.out.lt).far4 (D:=g5) (by omega) (.bool r26b1) (.slice r26A1 r26l1 r26c1) (.bool r26b2) (.slice r26A2 r26l2 r26c2))
 have HBel:=zh (below_stored HB8.out (show w.heap.size≤g5 by omega) (.bool r26b1) (.slice r26A1 r26l1 r26c1) (.bool r26b2) (.slice r26A2 r26l2 r26c2))
 have Hg5:Hid (w.heap.size<g5):=by unfold Hid;omega
 clear hF h26 hD5 hEq uy0 uy1 uy2 uy3 uy4 uz0 hlt hb8 hg5 HB8
 go_upto_region 4 with fail
 generalize (((((w8).setCell ⟨g5,0,none⟩ (.bool r26b1)).setCell ⟨g5,1,none⟩ (.slice r26A1 r26l1 r26c1)).setCell ⟨g5,2,none⟩ (.bool r26b2)).setCell ⟨g5,3,none⟩ (.slice r26A2 r26l2 r26c2))=W9 at *
 clear q0 q1 q2 q3 fz0 fz1 fz2 fz3 HB1 HbW HV
 have HV9:Hid (BeamAt W9 W9.heap.size (.agg #[.string b.name,.int .i64 b.len,.slice (some ⟨bs,os,none⟩) b.sup.length cs,.slice Al b.loads.length cl,.int .i64 b.even]) b):=HVw.out.grow HBel.out
 have y0:=HB9.out.cell 0
 have y1:=HB9.out.cell 1
 have y2:=HB9.out.cell 2
 have y3:=HB9.out.cell 3
 have y4:=HB9.out.cell 4
 simp only [zq1,zq2,zq3] at y0 y1 y2 y3 y4
 have z0:=(HBel.out.cell (p:=⟨bs,os+(b.sup.length-1),none⟩) hbs).trans (HSx.out (b.sup.length-1) (by omega))
 have HTu:=zh (hang_turned Hb.out)
 generalize supAt b (b.sup.length-1)=sl at *
 have j0:(0:Int)≤(b.sup.length:Int)-1:=by omega
 have j1:(b.sup.length:Int)-1<(b.sup.length:Int):=by omega
 have j2:((b.sup.length:Int)-1).toNat=b.sup.length-1:=by omega
 have j5:IntKind.i64.wrap ((b.sup.length:Int)-1)=(b.sup.length:Int)-1:=IntWalk.i64_in _ (by omega)
 have uy0:=HeldB.cell y0
 have uy1:=HeldB.cell y1
 have uy2:=HeldB.cell y2
 have uy3:=HeldB.cell y3
 have uy4:=HeldB.cell y4
 have uz0:=HeldB.cell z0
 clear y0 y1 y2 y3 y4 z0
 refine wp_region_grow 10 (fun jx => if jx=0 then some (gEq (0) (30)) else if jx=7 then some (gEq (leftR (turnedT b) (b.len-sl)) (1270)) else if jx=8 then some (gEq (0-leftR (turnedT b) (b.len-sl)) (1301)) else if jx=9 then some (gAq W9.heap.size) else none) (by kernel_rfl) (by kernel_rfl) ?_
 simp only [zt1,zt2,zt3,zt4]
 refine wpG_call rfl rfl ?_ ?_
 ·intro w1 hb1 hk
  have hC:=rgZero w1
  exact ⟨132,#[],by go_simp,Zg hC⟩
 rintro _ ⟨r27b1,r27A1,r27l1,r27c1,r27b2,r27A2,r27l2,r27c2,rfl⟩
 simp only [Act.put,zs1,zs2,zs3]
 refine wpG_quiet 6 (by kernel_rfl) (by rfl) (by decide) ?_
 simp only [zt1,zt2,zt3,zt4]
 repeat (go_big_quiet_step (fail))
 refine wpQuiet_nil ?_
 refine wpG_call rfl rfl ?_ ?_
 ·intro w1 hb1 hk
  have hC:=rgRightOf _ b sl w1 (HV9.out.grow hb1) Hb.out HA1.out.1 HA1.out.2 HT.out
  exact ⟨169,#[.agg #[.string b.name,.int .i64 b.len,.slice (some ⟨bs,os,none⟩) b.sup.length cs,.slice Al b.loads.length cl,.int .i64 b.even],.int .i64 sl],by go_simp,Zg hC⟩
 rintro _ ⟨r34b1,r34A1,r34l1,r34c1,r34b2,r34A2,r34l2,r34c2,rfl⟩
 simp only [Act.put,zs1,zs2,zs3]
 refine wpG_call rfl rfl ?_ ?_
 ·intro w1 hb1 hk
  have h27:ExqAt w1 w1.heap.size (.agg #[.bool r27b1,.slice r27A1 r27l1 r27c1,.bool r27b2,.slice r27A2 r27l2 r27c2]) (0) (30):=hk 27 (of_decide_eq_true (by kernel_rfl))
  have h34:ExqAt w1 w1.heap.size (.agg #[.bool r34b1,.slice r34A1 r34l1 r34c1,.bool r34b2,.slice r34A2 r34l2 r34c2]) (leftR (turnedT b) (b.len-sl)) (1270):=hk 34 (of_decide_eq_true (by kernel_rfl))
  have hC:=rgELess _ _ 0 (leftR (turnedT b) (b.len-sl)) 30 1270 w1 h27 h34 (by decide)
  exact ⟨136,#[.agg #[.bool r27b1,.slice r27A1 r27l1 r27c1,.bool r27b2,.slice r27A2 r27l2 r27c2],.agg #[.bool r34b1,.slice r34A1 r34l1 r34c1,.bool r34b2,.slice r34A2 r34l2 r34c2]],by go_simp,Zg hC⟩
 rintro _ ⟨r35b1,r35A1,r35l1,r35c1,r35b2,r35A2,r35l2,r35c2,rfl⟩
 simp only [Act.put,zs1,zs2,zs3]
 refine wpG_new rfl rfl (fun w1 hb1 _ => gAq_new hb1.size (by go_simp)) ?_
 rintro _ ⟨g6,rfl⟩
 simp only [Act.put,zs1,zs2,zs3]
 refine Zc ?_
 intro w8 hb8 hF
 have h26:ExqAt w8 w8.heap.size (.agg #[.bool r35b1,.slice r35A1 r35l1 r35c1,.bool r35b2,.slice r35A2 r35l2 r35c2]) (0-leftR (turnedT b) (b.len-sl)) 1301:=hF 35
 have h5:AtBoxQ W9.heap.size (.pointer (some ⟨g6,0,none⟩)) w8:=hF 6
 obtain ⟨g5',e5,hg5,hD5⟩:=h5
 injection e5 with e5
 injection e5 with e5
 injection e5 with e5 _ _
 subst e5
 have q0:=hD5.cell 0
 have q1:=hD5.cell 1
 have q2:=hD5.cell 2
 have q3:=hD5.cell 3
 simp only [zq1,zq2,zq3] at q0 q1 q2 q3
 have fz0:=hD5.frozen (0)
 have fz1:=hD5.frozen (1)
 have fz2:=hD5.frozen (2)
 have fz3:=hD5.frozen (3)
 rw [HTu.out] at h26
 have hlt:g5<W9.heap.size:=by
  obtain ⟨_,_,_,_,_,_,_,_,h,-⟩:=HN5.out
  exact h.lt
 have hlt2:w.heap.size<g5:=Hg5.out
 have HN6:=zh (EqBox.first hD5 h26)
 have HN5':=zh ((HN5.out.grow hb8).far4 (D:=g6) (by omega) hD5.kind (.bool r35b1) (.slice r35A1 r35l1 r35c1) (.bool r35b2) (.slice r35A2 r35l2 r35c2))
 have HB8:=zh (HBel.out.trans (hb8.mono HBel.out.size))
 have HB10:=zh ((HB9.out.below hb8 HB9.out.lt).far4 (D:=g6) (by omega) (.bool r35b1) (.slice r35A1 r35l1 r35c1) (.bool r35b2) (.slice r35A2 r35l2 r35c2))
 have HBe2:=zh (below_stored HB8.out (show w.heap.size≤g6 by omega) (.bool r35b1) (.slice r35A1 r35l1 r35c1) (.bool r35b2) (.slice r35A2 r35l2 r35c2))
 have Hg6:Hid (w.heap.size<g6):=by unfold Hid;omega
 clear hF h26 hD5 HTu uy0 uy1 uy2 uy3 uy4 uz0 hlt hlt2 hb8 hg5 HB8 HN5 HBel HB9
 go_upto_region 5 with fail
 simp only [Nat.zero_add] at HN5'
 generalize (((((w8).setCell ⟨g6,0,none⟩ (.bool r35b1)).setCell ⟨g6,1,none⟩ (.slice r35A1 r35l1 r35c1)).setCell ⟨g6,2,none⟩ (.bool r35b2)).setCell ⟨g6,3,none⟩ (.slice r35A2 r35l2 r35c2))=W11 at *
 clear q0 q1 q2 q3 fz0 fz1 fz2 fz3 HV9
 obtain ⟨iE,hiE,hzE0,hzE1,hzE2⟩:=info_parts info_exq
 have hbytes:iE.bytes*b.sup.length≤281474976710656:=by rw [hzE2];omega
 go_upto_region 6 with (at_make;refine wpList_make_full _ rfl _ _ 132 rfl _ 175 iE (.agg #[.bool false,.slice none 0 0,.bool false,.slice none 0 0]) 4 Tryz.underlying132 hiE hzE0 hzE1 .i64 .i64 _ _ b.sup.length rfl rfl rfl rfl hbytes (by unfold maxLen;omega) (Nat.le_refl _) ?_;intro w12 hown12 hgrow12)
 have HR7:Hid (EqRow w12 W11.heap.size b.sup.length (fun _ => none) 67530):=EqRow.made hown12
 have hb12:Below W11.heap.size W11 w12:=(Below.refl _ _).grown hgrow12 (Nat.le_refl _) (fun k hk => by cases hk)
 have H5a:=zh (HN5'.out.grow hb12)
 have H6a:=zh (HN6.out.grow hb12)
 have Hlt7:Hid (g5<W11.heap.size∧g6<W11.heap.size∧w.heap.size<W11.heap.size):=by
  obtain ⟨_,_,_,_,_,_,_,_,h5,-⟩:=HN5'.out
  obtain ⟨_,_,_,_,_,_,_,_,h6,-⟩:=HN6.out
  exact ⟨h5.lt,h6.lt,HB10.out.lt⟩
 have HBm:=zh (HB10.out.below hb12 HB10.out.lt)
 have HBe3:=zh (HBe2.out.trans (hb12.mono HBe2.out.size))
 clear hown12 hgrow12 hb12 HN5' HN6 HB10 HBe2
 obtain ⟨g7,hg7⟩:∃ g7,W11.heap.size=g7:=⟨_,rfl⟩
 rw [hg7] at HR7 Hlt7
 simp only [hg7]
 clear hg7
 obtain ⟨sb1,sA1,sl1,sc1,sb2,sA2,sl2,sc2,hB,hE⟩:=H5a.out
 have y0:=hB.cell 0
 have y1:=hB.cell 1
 have y2:=hB.cell 2
 have y3:=hB.cell 3
 simp only [zq1,zq2,zq3] at y0 y1 y2 y3
 have HE:=zh hE
 clear hB hE
 go_wp2_with fail
 refine (rgLowerF _ (hangR b) 1301 50647 w12 HE.out (by decide) (fits_mono (hangR_fits Hb.out) (by decide))).mono ?_
 rintro e w13 ⟨v13,rfl,hb13,hE13⟩
 obtain ⟨xb1,xA1,xl1,xc1,xb2,xA2,xl2,xc2,_,_,rfl,-⟩:=exq_form hE13
 have HR7b:=zh (HR7.out.grow hb13)
 have H6b:=zh (H6a.out.grow hb13)
 have HBm2:=zh (HBm.out.below hb13 HBm.out.lt)
 have HBe4:=zh (HBe3.out.trans (hb13.mono HBe3.out.size))
 have HE13:=zh hE13
 obtain ⟨pb1,pA1,pl1,pc1,pb2,pA2,pl2,pc2,o0,o1,o2,o3,oE⟩:=HR7b.out.read (i:=0) (by omega)
 have fo0:=HR7b.out.frozen (0)
 have fo1:=HR7b.out.frozen (1)
 have fo2:=HR7b.out.frozen (2)
 have fo3:=HR7b.out.frozen (3)
 simp only [Nat.zero_mul,Nat.zero_add] at o0 o1 o2 o3
 clear y0 y1 y2 y3 HE hE13 oE hb13 H5a H6a HR7 HBm HBe3
 go_upto_region 7 with fail
 have HE13':ExqAt w13 w13.heap.size (.agg #[.bool xb1,.slice xA1 xl1 xc1,.bool xb2,.slice xA2 xl2 xc2]) (Zx b 0) 67530:=by rw [mom_zero];exact HE13.out
 have HR7c:=zh (HR7b.out.write (i:=0) (by omega) HE13')
 have H6c:=zh (H6b.out.far4 (D:=g7) (o:=0*4) (by have:=Hlt7.out.2.1;omega) (HR7b.out.kind (i:=0) (by omega)) (.bool xb1) (.slice xA1 xl1 xc1) (.bool xb2) (.slice xA2 xl2 xc2))
 have HBm3:=zh (HBm2.out.far4o (D:=g7) (by have:=Hlt7.out.2.2;omega) (0*4) (.bool xb1) (.slice xA1 xl1 xc1) (.bool xb2) (.slice xA2 xl2 xc2))
 have HBe5:=zh (below_set4 (g:=g7) HBe4.out (by have:=Hlt7.out.2.2;omega) (0*4) (.bool xb1) (.slice xA1 xl1 xc1) (.bool xb2) (.slice xA2 xl2 xc2))
 simp only [Nat.zero_mul,Nat.zero_add] at HR7c H6c HBm3 HBe5
 clear HE13 HE13' HR7b H6b HBm2 HBe4 o0 o1 o2 o3 fo0 fo1 fo2 fo3
 generalize (((((w13).setCell ⟨g7,0,none⟩ (.bool xb1)).setCell ⟨g7,1,none⟩ (.slice xA1 xl1 xc1)).setCell ⟨g7,2,none⟩ (.bool xb2)).setCell ⟨g7,3,none⟩ (.slice xA2 xl2 xc2))=W14 at *
 obtain ⟨sb1,sA1,sl1,sc1,sb2,sA2,sl2,sc2,hB,hE⟩:=H6c.out
 have y0:=hB.cell 0
 have y1:=hB.cell 1
 have y2:=hB.cell 2
 have y3:=hB.cell 3
 simp only [zq1,zq2,zq3] at y0 y1 y2 y3
 have HE:=zh hE
 clear hB hE
 go_wp2_with fail
 refine (rgLowerF _ (hangR (turnedT b)) 1301 50647 W14 HE.out (by decide) (fits_mono (hangR_fits (turned_ok Hb.out)) (by decide))).mono ?_
 rintro e w15 ⟨v15,rfl,hb15,hE15⟩
 obtain ⟨zb1,zA1,zl1,zc1,zb2,zA2,zl2,zc2,_,_,rfl,-⟩:=exq_form hE15
 have HR7d:=zh (HR7c.out.grow hb15)
 have HBm4:=zh (HBm3.out.below hb15 HBm3.out.lt)
 have HBe6:=zh (HBe5.out.trans (hb15.mono HBe5.out.size))
 have HE15:=zh hE15
 obtain ⟨pb1,pA1,pl1,pc1,pb2,pA2,pl2,pc2,o0,o1,o2,o3,oE⟩:=HR7d.out.read (i:=b.sup.length-1) (by omega)
 have fo0:=HR7d.out.frozen ((b.sup.length-1)*4)
 have fo1:=HR7d.out.frozen ((b.sup.length-1)*4+1)
 have fo2:=HR7d.out.frozen ((b.sup.length-1)*4+2)
 have fo3:=HR7d.out.frozen ((b.sup.length-1)*4+3)
 clear y0 y1 y2 y3 HE hE15 oE hb15 H6c HR7c HBm3 HBe5
 go_upto_region 8 with fail
 have HE15':ExqAt w15 w15.heap.size (.agg #[.bool zb1,.slice zA1 zl1 zc1,.bool zb2,.slice zA2 zl2 zc2]) (Zx b (b.sup.length-1)) 67530:=by rw [mom_last Hb.out HTi.out];exact HE15.out
 have HR7e:=zh (HR7d.out.write (i:=b.sup.length-1) (by omega) HE15')
 have HBm5:=zh (HBm4.out.far4o (D:=g7) (by have:=Hlt7.out.2.2;omega) ((b.sup.length-1)*4) (.bool zb1) (.slice zA1 zl1 zc1) (.bool zb2) (.slice zA2 zl2 zc2))
 have HBe7:=zh (below_set4 (g:=g7) HBe6.out (by have:=Hlt7.out.2.2;omega) ((b.sup.length-1)*4) (.bool zb1) (.slice zA1 zl1 zc1) (.bool zb2) (.slice zA2 zl2 zc2))
 clear HE15 HE15' HR7d HBm4 HBe6 o0 o1 o2 o3 fo0 fo1 fo2 fo3
 generalize (((((w15).setCell ⟨g7,(b.sup.length-1)*4,none⟩ (.bool zb1)).setCell ⟨g7,(b.sup.length-1)*4+1,none⟩ (.slice zA1 zl1 zc1)).setCell ⟨g7,(b.sup.length-1)*4+2,none⟩ (.bool zb2)).setCell ⟨g7,(b.sup.length-1)*4+3,none⟩ (.slice zA2 zl2 zc2))=W16 at *
 go_upto_region 9 with (at_make;refine wpList_make_full _ rfl _ _ 132 rfl _ 175 iE (.agg #[.bool false,.slice none 0 0,.bool false,.slice none 0 0]) 4 Tryz.underlying132 hiE hzE0 hzE1 .i64 .i64 _ _ b.sup.length rfl rfl rfl rfl hbytes (by unfold maxLen;omega) (Nat.le_refl _) ?_;intro w17 hown hgrow)
 have hb:Below W16.heap.size W16 w17:=(Below.refl _ _).grown hgrow (Nat.le_refl _) (fun k hk => by cases hk)
 have HR8:Hid (EqRow w17 W16.heap.size b.sup.length (fun _ => none) 67530):=EqRow.made hown
 have HR7f:=zh (HR7e.out.grow hb)
 have HBm6:=zh (HBm5.out.below hb HBm5.out.lt)
 have HBe8:=zh (HBe7.out.trans (hb.mono HBe7.out.size))
 have Hlt8:Hid (g7<W16.heap.size):=HR7e.out.lt
 clear hown hgrow hb HR7e HBm5 HBe7
 obtain ⟨g8,hg8⟩:∃ g8,W16.heap.size=g8:=⟨_,rfl⟩
 rw [hg8] at HR8 Hlt8
 simp only [hg8]
 clear hg8
 go_upto_region 10 with (at_make;refine wpList_make_full _ rfl _ _ 132 rfl _ 175 iE (.agg #[.bool false,.slice none 0 0,.bool false,.slice none 0 0]) 4 Tryz.underlying132 hiE hzE0 hzE1 .i64 .i64 _ _ b.sup.length rfl rfl rfl rfl hbytes (by unfold maxLen;omega) (Nat.le_refl _) ?_;intro w18 hown hgrow)
 have hb:Below w17.heap.size w17 w18:=(Below.refl _ _).grown hgrow (Nat.le_refl _) (fun k hk => by cases hk)
 have HR9:Hid (EqRow w18 w17.heap.size b.sup.length (fun _ => none) 51):=EqRow.made hown
 have HM:Hid (MoQ w w18 b #[.string b.name,.int .i64 b.len,.slice (some ⟨bs,os,none⟩) b.sup.length cs,.slice Al b.loads.length cl,.int .i64 b.even] g7 g8 w17.heap.size (outF b 0) (fun _ => none) (fun _ => none)):=by
  have a1:=Hlt7.out
  have a2:=Hlt8.out
  have a3:=HR8.out.lt
  have a4:=HR7f.out.lt
  exact ⟨HBm6.out.below hb HBm6.out.lt,(HR7f.out.grow hb).weak (fun j q hj h => by
   unfold outF at h
   unfold putQ
   by_cases e1:j=b.sup.length-1
   ·rw [if_pos e1,← e1]
    rw [if_pos (by omega)] at h
    exact h
   ·rw [if_neg e1]
    by_cases e2:j=0
    ·subst e2
     rw [if_pos rfl]
     rw [if_pos (by omega)] at h
     exact h
    ·rw [if_neg (by omega)] at h
     cases h),HR8.out.grow hb,HR9.out,HBe8.out.trans (hb.mono HBe8.out.size),a1.2.2,by omega,by omega,by omega,by omega,by omega⟩
 clear hown hgrow hb HR7f HR8 HR9 HBm6 HBe8 Hlt7 Hlt8 hbytes hiE hzE0 hzE1 hzE2
 obtain ⟨g9,hg9⟩:∃ g9,w17.heap.size=g9:=⟨_,rfl⟩
 rw [hg9] at HM
 simp only [hg9]
 clear hg9
 obtain ⟨pb1,pA1,pl1,pc1,pb2,pA2,pl2,pc2,o0,o1,o2,o3,oE⟩:=HM.out.r7.read (i:=0) (by omega)
 obtain ⟨nb1,nA1,nl1,nc1,nb2,nA2,nl2,nc2,k0,k1,k2,k3,kE⟩:=HM.out.r8.read (i:=0) (by omega)
 have fk0:=HM.out.r8.frozen (0)
 have fk1:=HM.out.r8.frozen (1)
 have fk2:=HM.out.r8.frozen (2)
 have fk3:=HM.out.r8.frozen (3)
 simp only [Nat.zero_mul,Nat.zero_add] at o0 o1 o2 o3 k0 k1 k2 k3
 have HE:=zh (oE (Zx b 0) (if_pos (.inl rfl)))
 clear oE kE
 go_upto_region 11 with fail
 have HM2:=zh (HM.out.put8 (i:=0) (o:=0) (by omega) rfl HE.out)
 simp only [Nat.zero_add] at HM2
 clear HM HE o0 o1 o2 o3 k0 k1 k2 k3 fk0 fk1 fk2 fk3
 generalize (((((w18).setCell ⟨g8,0,none⟩ (.bool pb1)).setCell ⟨g8,1,none⟩ (.slice pA1 pl1 pc1)).setCell ⟨g8,2,none⟩ (.bool pb2)).setCell ⟨g8,3,none⟩ (.slice pA2 pl2 pc2))=W19 at *
 go_wp2_with fail
 refine (rgZero W19).mono ?_
 rintro e w20 ⟨v20,rfl,hb20,hE20⟩
 obtain ⟨xb1,xA1,xl1,xc1,xb2,xA2,xl2,xc2,_,_,rfl,-⟩:=exq_form hE20
 have HM3:=zh (HM2.out.grow hb20)
 have HE:=zh (hE20.more (K':=51) (by decide))
 clear hE20 hb20 HM2
 obtain ⟨nb1,nA1,nl1,nc1,nb2,nA2,nl2,nc2,k0,k1,k2,k3,kE⟩:=HM3.out.r9.read (i:=0) (by omega)
 have fk0:=HM3.out.r9.frozen (0)
 have fk1:=HM3.out.r9.frozen (1)
 have fk2:=HM3.out.r9.frozen (2)
 have fk3:=HM3.out.r9.frozen (3)
 simp only [Nat.zero_mul,Nat.zero_add] at k0 k1 k2 k3
 clear kE
 go_wp2_with fail
 have HM4:=HM3.out.put9 (i:=0) (o:=0) (by omega) rfl HE.out
 simp only [Nat.zero_add] at HM4
 have HM5:Hid (MoQ w (((((w20).setCell ⟨g9,0,none⟩ (.bool xb1)).setCell ⟨g9,1,none⟩ (.slice xA1 xl1 xc1)).setCell ⟨g9,2,none⟩ (.bool xb2)).setCell ⟨g9,3,none⟩ (.slice xA2 xl2 xc2)) b #[.string b.name,.int .i64 b.len,.slice (some ⟨bs,os,none⟩) b.sup.length cs,.slice Al b.loads.length cl,.int .i64 b.even] g7 g8 g9 (outF b 0) (pF b 0) (qF b 0)):=HM4.weak (fun _ _ _ h => h) (fun j q _ h => by
  unfold pF at h
  by_cases e:j=0
  ·subst e
   rw [if_pos (Nat.le_refl _)] at h
   rw [← h]
   exact if_pos rfl
  ·rw [if_neg (by omega)] at h
   cases h) (fun j q _ h => by
  unfold qF at h
  by_cases e:j=0
  ·subst e
   rw [if_pos (Nat.le_refl _)] at h
   rw [← h]
   exact if_pos rfl
  ·rw [if_neg (by omega)] at h
   cases h)
 clear HM3 HM4 HE k0 k1 k2 k3 fk0 fk1 fk2 fk3
 generalize (((((w20).setCell ⟨g9,0,none⟩ (.bool xb1)).setCell ⟨g9,1,none⟩ (.slice xA1 xl1 xc1)).setCell ⟨g9,2,none⟩ (.bool xb2)).setCell ⟨g9,3,none⟩ (.slice xA2 xl2 xc2))=W21 at *
 go_loopw [10] (fun ix wr => ∃ k:Nat,(k=0∨k+2≤b.sup.length)∧ix = .int .i64 ((k:Int)+1)∧Hid (MoQ w wr b #[.string b.name,.int .i64 b.len,.slice (some ⟨bs,os,none⟩) b.sup.length cs,.slice Al b.loads.length cl,.int .i64 b.even] g7 g8 g9 (outF b 0) (pF b k) (qF b k))) (fun ix _ => b.sup.length-(intOf ix).toNat)
 case atStart => exact ⟨0,.inl rfl,rfl,HM5⟩
 case round =>
  clear HM5
  obtain ⟨k,hk,rfl,HM⟩:=hrel
  have k9:(k:Int)+1≤10:=by omega
  have kk0:(0:Int)≤(k:Int):=Int.natCast_nonneg _
  by_cases hkl:k+2<b.sup.length
  ·skip
   have k1:(k:Int)+1<(b.sup.length:Int)-1:=by omega
   have a1:=(HM.out.bel.cell (p:=⟨bs,os+k,none⟩) hbs).trans (HSx.out k (by omega))
   obtain ⟨ii,hii⟩:∃ ii,k+1=ii:=⟨_,rfl⟩
   have a2:=(HM.out.bel.cell (p:=⟨bs,os+(k+1),none⟩) hbs).trans (HSx.out (k+1) (by omega))
   have a3:=(HM.out.bel.cell (p:=⟨bs,os+(k+2),none⟩) hbs).trans (HSx.out (k+2) (by omega))
   have t0:=Hb.out.sup k (by omega)
   have t1:=Hb.out.inc k (by omega)
   have t2:=Hb.out.inc (k+1) (by omega)
   have t3:=Hb.out.sup (k+2) (by omega)
   have HK:Hid (spanK b (k+1)=supAt b (k+1)-supAt b k):=rfl
   have HN:Hid (spanK b (k+2)=supAt b (k+2)-supAt b (k+1)):=rfl
   have HRH:=zh (rhs_is b k)
   rw [show k+1+1=k+2 from rfl] at t2
   have HZ1:=zh (HSx.out k (by omega))
   have HZ2:=zh (HSx.out (k+1) (by omega))
   have HZ3:=zh (HSx.out (k+2) (by omega))
   have e1:(k:Int)+1=(ii:Int):=by omega
   rw [e1] at k1 k9
   rw [e1]
   have i0:(0:Int)≤(ii:Int):=Int.natCast_nonneg _
   have i4:(ii:Int)<(b.sup.length:Int):=by omega
   have i1:ii<b.sup.length:=by omega
   generalize supAt b k=sp at *
   generalize supAt b (k+1)=sq at *
   generalize supAt b (k+2)=sr at *
   obtain ⟨t01,t02⟩:=t0
   obtain ⟨t31,t32⟩:=t3
   have i3:((k:Int)+2).toNat=k+2:=by omega
   have i5:(k:Int)<(b.sup.length:Int):=by omega
   have i7:(k:Int)+2<(b.sup.length:Int):=by omega
   have i9:(0:Int)≤(k:Int)+2:=by omega
   have v1:IntKind.i64.wrap ((ii:Int)-1)=(k:Int):=(IntWalk.i64_in _ (by omega)).trans (by omega)
   have v2:IntKind.i64.wrap ((ii:Int)+1)=(k:Int)+2:=(IntWalk.i64_in _ (by omega)).trans (by omega)
   have v3:IntKind.i64.wrap (sq-sp)=sq-sp:=IntWalk.i64_in _ (by omega)
   have v4:IntKind.i64.wrap (sr-sq)=sr-sq:=IntWalk.i64_in _ (by omega)
   rw [hii] at a2 HZ2
   have Hii:=zh hii
   clear hii e1
   go_upto_region 15 with fail
   go_quiet (fail)
   go_upto_region 16 with fail
   generalize hdw:wr.drewN nq=W22 at *
   have HM6:Hid (MoQ w W22 b #[.string b.name,.int .i64 b.len,.slice (some ⟨bs,os,none⟩) b.sup.length cs,.slice Al b.loads.length cl,.int .i64 b.even] g7 g8 g9 (outF b 0) (pF b k) (qF b k)):=by rw [← hdw];exact HM.out.grow (Zf (Below.refl _ _) _)
   clear hdw a1 a2 a3 HM
   have y0:=HM6.out.bm.cell 0
   have y1:=HM6.out.bm.cell 1
   have y2:=HM6.out.bm.cell 2
   have y3:=HM6.out.bm.cell 3
   have y4:=HM6.out.bm.cell 4
   simp only [zq1,zq2,zq3] at y0 y1 y2 y3 y4
   have z1:=(HM6.out.bel.cell (p:=⟨bs,os+k,none⟩) hbs).trans HZ1.out
   have z2:=(HM6.out.bel.cell (p:=⟨bs,os+ii,none⟩) hbs).trans HZ2.out
   have z3:=(HM6.out.bel.cell (p:=⟨bs,os+(k+2),none⟩) hbs).trans HZ3.out
   have HV:=zh (HVw.out.grow HM6.out.bel)
   have uy0:=HeldB.cell y0
   have uy1:=HeldB.cell y1
   have uy2:=HeldB.cell y2
   have uy3:=HeldB.cell y3
   have uy4:=HeldB.cell y4
   have uz1:=HeldB.cell z1
   have uz2:=HeldB.cell z2
   have uz3:=HeldB.cell z3
   clear y0 y1 y2 y3 y4 z1 z2 z3
   refine wp_region_grow 26 (fun jx => if jx=0 then some (gEq (0) (30)) else if jx=11 then some (gEq (sideR b sp sq true) (1270)) else if jx=22 then some (gEq (sideR b sq sr false) (1270)) else if jx=23 then some (gEq (sideR b sp sq true+sideR b sq sr false) (2541)) else if jx=24 then some (gEq (0-(sideR b sp sq true+sideR b sq sr false)) (2572)) else if jx=25 then some (gAq W22.heap.size) else none) (by kernel_rfl) (by kernel_rfl) ?_
   simp only [zt1,zt2,zt3,zt4]
   refine wpG_call rfl rfl ?_ ?_
   ·intro w1 hb1 hk
    have hC:=rgZero w1
    exact ⟨132,#[],by go_simp,Zg hC⟩
   rintro _ ⟨r86b1,r86A1,r86l1,r86c1,r86b2,r86A2,r86l2,r86c2,rfl⟩
   simp only [Act.put,zs1,zs2,zs3]
   refine wpG_quiet 10 (by kernel_rfl) (by rfl) (by decide) ?_
   simp only [zt1,zt2,zt3,zt4]
   repeat (go_big_quiet_step (fail))
   refine wpQuiet_nil ?_
   refine wpG_call rfl rfl ?_ ?_
   ·intro w1 hb1 hk
    have hC:=rgFarT _ b sp sq w1 (HV.out.grow hb1) Hb.out (by omega) (by omega) (by omega)
    exact ⟨172,#[.agg #[.string b.name,.int .i64 b.len,.slice (some ⟨bs,os,none⟩) b.sup.length cs,.slice Al b.loads.length cl,.int .i64 b.even],.int .i64 sq,.int .i64 sp],by go_simp,Zg hC⟩
   rintro _ ⟨r97b1,r97A1,r97l1,r97c1,r97b2,r97A2,r97l2,r97c2,rfl⟩
   simp only [Act.put,zs1,zs2,zs3]
   refine wpG_quiet 10 (by kernel_rfl) (by rfl) (by decide) ?_
   simp only [zt1,zt2,zt3,zt4]
   repeat (go_big_quiet_step (fail))
   refine wpQuiet_nil ?_
   refine wpG_call rfl rfl ?_ ?_
   ·intro w1 hb1 hk
    have hC:=rgFarF _ b sq sr w1 (HV.out.grow hb1) Hb.out (by omega) (by omega) (by omega)
    exact ⟨172,#[.agg #[.string b.name,.int .i64 b.len,.slice (some ⟨bs,os,none⟩) b.sup.length cs,.slice Al b.loads.length cl,.int .i64 b.even],.int .i64 sq,.int .i64 sr],by go_simp,Zg hC⟩
   rintro _ ⟨r108b1,r108A1,r108l1,r108c1,r108b2,r108A2,r108l2,r108c2,rfl⟩
   simp only [Act.put,zs1,zs2,zs3]
   refine wpG_call rfl rfl ?_ ?_
   ·intro w1 hb1 hk
    have h97:ExqAt w1 w1.heap.size (.agg #[.bool r97b1,.slice r97A1 r97l1 r97c1,.bool r97b2,.slice r97A2 r97l2 r97c2]) (sideR b sp sq true) (1270):=hk 97 (of_decide_eq_true (by kernel_rfl))
    have h108:ExqAt w1 w1.heap.size (.agg #[.bool r108b1,.slice r108A1 r108l1 r108c1,.bool r108b2,.slice r108A2 r108l2 r108c2]) (sideR b sq sr false) (1270):=hk 108 (of_decide_eq_true (by kernel_rfl))
    have hC:=rgEPlus _ _ _ _ 1270 1270 w1 h97 h108 (by decide)
    exact ⟨133,#[.agg #[.bool r97b1,.slice r97A1 r97l1 r97c1,.bool r97b2,.slice r97A2 r97l2 r97c2],.agg #[.bool r108b1,.slice r108A1 r108l1 r108c1,.bool r108b2,.slice r108A2 r108l2 r108c2]],by go_simp,Zg hC⟩
   rintro _ ⟨r109b1,r109A1,r109l1,r109c1,r109b2,r109A2,r109l2,r109c2,rfl⟩
   simp only [Act.put,zs1,zs2,zs3]
   refine wpG_call rfl rfl ?_ ?_
   ·intro w1 hb1 hk
    have h86:ExqAt w1 w1.heap.size (.agg #[.bool r86b1,.slice r86A1 r86l1 r86c1,.bool r86b2,.slice r86A2 r86l2 r86c2]) (0) (30):=hk 86 (of_decide_eq_true (by kernel_rfl))
    have h109:ExqAt w1 w1.heap.size (.agg #[.bool r109b1,.slice r109A1 r109l1 r109c1,.bool r109b2,.slice r109A2 r109l2 r109c2]) (sideR b sp sq true+sideR b sq sr false) (2541):=hk 109 (of_decide_eq_true (by kernel_rfl))
    have hC:=rgELess _ _ _ _ 30 2541 w1 h86 h109 (by decide)
    exact ⟨136,#[.agg #[.bool r86b1,.slice r86A1 r86l1 r86c1,.bool r86b2,.slice r86A2 r86l2 r86c2],.agg #[.bool r109b1,.slice r109A1 r109l1 r109c1,.bool r109b2,.slice r109A2 r109l2 r109c2]],by go_simp,Zg hC⟩
   rintro _ ⟨r110b1,r110A1,r110l1,r110c1,r110b2,r110A2,r110l2,r110c2,rfl⟩
   simp only [Act.put,zs1,zs2,zs3]
   refine wpG_new rfl rfl (fun w1 hb1 _ => gAq_new hb1.size (by go_simp)) ?_
   rintro _ ⟨g13,rfl⟩
   simp only [Act.put,zs1,zs2,zs3]
   refine Zc ?_
   intro w8 hb8 hF
   have h26:ExqAt w8 w8.heap.size (.agg #[.bool r110b1,.slice r110A1 r110l1 r110c1,.bool r110b2,.slice r110A2 r110l2 r110c2]) (0-(sideR b sp sq true+sideR b sq sr false)) 2572:=hF 110
   have h5:AtBoxQ W22.heap.size (.pointer (some ⟨g13,0,none⟩)) w8:=hF 13
   obtain ⟨g5',e5,hg5,hD5⟩:=h5
   injection e5 with e5
   injection e5 with e5
   injection e5 with e5 _ _
   subst e5
   have q0:=hD5.cell 0
   have q1:=hD5.cell 1
   have q2:=hD5.cell 2
   have q3:=hD5.cell 3
   simp only [zq1,zq2,zq3] at q0 q1 q2 q3
   have fz0:=hD5.frozen (0)
   have fz1:=hD5.frozen (1)
   have fz2:=hD5.frozen (2)
   have fz3:=hD5.frozen (3)
   have hEq:=HRH.out
   rw [hEq] at h26
   have HX13:=zh (EqBox.first hD5 h26)
   have HM7:=HM6.out.grow hb8
   have l7:=HM6.out.r7.lt
   have l8:=HM6.out.r8.lt
   have l9:=HM6.out.r9.lt
   have l0:=HM6.out.b7
   have HM8:=zh (HM7.far (D:=g13) (by omega) (by omega) (by omega) (by omega) hD5.kind (.bool r110b1) (.slice r110A1 r110l1 r110c1) (.bool r110b2) (.slice r110A2 r110l2 r110c2))
   have Hg13:Hid (g7<g13∧g8<g13∧g9<g13):=by unfold Hid;omega
   clear hF h26 hD5 hEq uy0 uy1 uy2 uy3 uy4 uz1 uz2 uz3 hb8 hg5 HM7 l7 l8 l9 l0 HM6 HRH HZ1 HZ2 HZ3 HV
   go_upto_region 17 with fail
   generalize (((((w8).setCell ⟨g13,0,none⟩ (.bool r110b1)).setCell ⟨g13,1,none⟩ (.slice r110A1 r110l1 r110c1)).setCell ⟨g13,2,none⟩ (.bool r110b2)).setCell ⟨g13,3,none⟩ (.slice r110A2 r110l2 r110c2))=W23 at *
   clear q0 q1 q2 q3 fz0 fz1 fz2 fz3
   obtain ⟨sb1,sA1,sl1,sc1,sb2,sA2,sl2,sc2,hB,hE⟩:=HX13.out
   have y0:=hB.cell 0
   have y1:=hB.cell 1
   have y2:=hB.cell 2
   have y3:=hB.cell 3
   simp only [zq1,zq2,zq3] at y0 y1 y2 y3
   have HE:=zh hE
   obtain ⟨pb1,pA1,pl1,pc1,pb2,pA2,pl2,pc2,o0,o1,o2,o3,oE⟩:=HM8.out.r8.read (i:=k) (by omega)
   have HO:=zh (oE (pqR b k).1 (if_pos (Nat.le_refl _)))
   have hs1:(sq-sp).natAbs≤1152921504606846976:=by omega
   clear oE hE hB
   have uy0:=HeldB.cell y0
   have uy1:=HeldB.cell y1
   have uy2:=HeldB.cell y2
   have uy3:=HeldB.cell y3
   have uo0:=HeldB.cell o0
   have uo1:=HeldB.cell o1
   have uo2:=HeldB.cell o2
   have uo3:=HeldB.cell o3
   clear y0 y1 y2 y3 o0 o1 o2 o3
   refine wp_region_grow 11 (fun jx => if jx=2 then some (gI [sq-sp]) else if jx=3 then some (gEq (Zu 1 [sq-sp]) (30)) else if jx=9 then some (gEq (Zu 1 [sq-sp]*(pqR b k).1) (67560)) else if jx=10 then some (gEq (rhs0 b (k+1)-Zu 1 [sq-sp]*(pqR b k).1) (70133)) else none) (by kernel_rfl) (by kernel_rfl) ?_
   simp only [zt1,zt2,zt3,zt4]
   refine wpG_quiet 2 (by kernel_rfl) (by rfl) (by decide) ?_
   simp only [zt1,zt2,zt3,zt4]
   repeat (go_big_quiet_step (fail))
   refine wpQuiet_nil ?_
   refine wpG_new rfl rfl (fun w1 hb1 _ => gI_new (T:=3) (l:=[sq-sp]) (Nat.le_of_ble_eq_true rfl) (by go_simp)) ?_
   rintro _ ⟨g113,rfl⟩
   simp only [Act.put,zs1,zs2,zs3]
   refine wpG_call rfl rfl ?_ ?_
   ·intro w1 hb1 hk
    have h113:IntsAt w1 w1.heap.size (.slice (some ⟨g113,0,none⟩) 1 1) [sq-sp]:=hk 113 (of_decide_eq_true (by kernel_rfl))
    have hC:=rgPart 1 _ [sq-sp] w1 h113 (Nat.le_of_ble_eq_true rfl) (tiny1 hs1) (by decide) (by decide)
    exact ⟨134,#[.slice (some ⟨g113,0,none⟩) 1 1,.int .i64 1],by go_simp,Zg hC⟩
   rintro _ ⟨r114b1,r114A1,r114l1,r114c1,r114b2,r114A2,r114l2,r114c2,rfl⟩
   simp only [Act.put,zs1,zs2,zs3]
   refine wpG_quiet 5 (by kernel_rfl) (by rfl) (by decide) ?_
   simp only [zt1,zt2,zt3,zt4]
   repeat (go_big_quiet_step (fail))
   refine wpQuiet_nil ?_
   refine wpG_call rfl rfl ?_ ?_
   ·intro w1 hb1 hk
    have h114:ExqAt w1 w1.heap.size (.agg #[.bool r114b1,.slice r114A1 r114l1 r114c1,.bool r114b2,.slice r114A2 r114l2 r114c2]) (Zu 1 [sq-sp]) (30):=hk 114 (of_decide_eq_true (by kernel_rfl))
    have hC:=rgETimes _ _ _ _ 30 67530 w1 h114 (HO.out.grow hb1) (by decide)
    exact ⟨135,#[.agg #[.bool r114b1,.slice r114A1 r114l1 r114c1,.bool r114b2,.slice r114A2 r114l2 r114c2],.agg #[.bool pb1,.slice pA1 pl1 pc1,.bool pb2,.slice pA2 pl2 pc2]],by go_simp,Zg hC⟩
   rintro _ ⟨r120b1,r120A1,r120l1,r120c1,r120b2,r120A2,r120l2,r120c2,rfl⟩
   simp only [Act.put,zs1,zs2,zs3]
   refine wpG_call rfl rfl ?_ ?_
   ·intro w1 hb1 hk
    have h120:ExqAt w1 w1.heap.size (.agg #[.bool r120b1,.slice r120A1 r120l1 r120c1,.bool r120b2,.slice r120A2 r120l2 r120c2]) (Zu 1 [sq-sp]*(pqR b k).1) (67560):=hk 120 (of_decide_eq_true (by kernel_rfl))
    have hC:=rgELess _ _ _ _ 2572 67560 w1 (HE.out.grow hb1) h120 (by decide)
    exact ⟨136,#[.agg #[.bool sb1,.slice sA1 sl1 sc1,.bool sb2,.slice sA2 sl2 sc2],.agg #[.bool r120b1,.slice r120A1 r120l1 r120c1,.bool r120b2,.slice r120A2 r120l2 r120c2]],by go_simp,Zg hC⟩
   rintro _ ⟨r121b1,r121A1,r121l1,r121c1,r121b2,r121A2,r121l2,r121c2,rfl⟩
   simp only [Act.put,zs1,zs2,zs3]
   refine Zc ?_
   intro w8 hb8 hF
   have h26:ExqAt w8 w8.heap.size (.agg #[.bool r121b1,.slice r121A1 r121l1 r121c1,.bool r121b2,.slice r121A2 r121l2 r121c2]) (rhs0 b (k+1)-Zu 1 [sq-sp]*(pqR b k).1) 70133:=hF 121
   have HX9:=HX13.out.grow hb8
   obtain ⟨_,_,_,_,_,_,_,_,hD5,-⟩:=HX13.out.grow hb8
   have HX13b:=zh (HX9.put h26)
   have HM9:=zh ((HM8.out.grow hb8).far (D:=g13) (by have:=Hg13.out;have:=HM8.out.b7;omega) (by have:=Hg13.out;omega) (by have:=Hg13.out;omega) (by have:=Hg13.out;omega) HX9.kind (.bool r121b1) (.slice r121A1 r121l1 r121c1) (.bool r121b2) (.slice r121A2 r121l2 r121c2))
   have q0:=hD5.cell 0
   have q1:=hD5.cell 1
   have q2:=hD5.cell 2
   have q3:=hD5.cell 3
   simp only [zq1,zq2,zq3] at q0 q1 q2 q3
   have fz0:=hD5.frozen (0)
   have fz1:=hD5.frozen (1)
   have fz2:=hD5.frozen (2)
   have fz3:=hD5.frozen (3)
   clear hF h26 hD5 HX9 uy0 uy1 uy2 uy3 uo0 uo1 uo2 uo3 hb8 HM8 HX13 HE HO
   go_upto_region 18 with fail
   generalize (((((w8).setCell ⟨g13,0,none⟩ (.bool r121b1)).setCell ⟨g13,1,none⟩ (.slice r121A1 r121l1 r121c1)).setCell ⟨g13,2,none⟩ (.bool r121b2)).setCell ⟨g13,3,none⟩ (.slice r121A2 r121l2 r121c2))=W24 at *
   clear q0 q1 q2 q3 fz0 fz1 fz2 fz3
   obtain ⟨pb1,pA1,pl1,pc1,pb2,pA2,pl2,pc2,o0,o1,o2,o3,oE⟩:=HM9.out.r9.read (i:=k) (by omega)
   have HO:=zh (oE (pqR b k).2 (if_pos (Nat.le_refl _)))
   have v5:IntKind.i64.wrap ((sq-sp)+(sr-sq))=(sq-sp)+(sr-sq):=IntWalk.i64_in _ (by omega)
   have hs2:((sq-sp)+(sr-sq)).natAbs≤1152921504606846976:=by omega
   clear oE
   have uo0:=HeldB.cell o0
   have uo1:=HeldB.cell o1
   have uo2:=HeldB.cell o2
   have uo3:=HeldB.cell o3
   clear o0 o1 o2 o3
   refine wp_region_grow 16 (fun jx => if jx=3 then some (gI [2,(sq-sp)+(sr-sq)]) else if jx=4 then some (gEq (Zu 1 [2,(sq-sp)+(sr-sq)]) (30)) else if jx=6 then some (gI [sq-sp]) else if jx=7 then some (gEq (Zu 1 [sq-sp]) (30)) else if jx=13 then some (gEq (Zu 1 [sq-sp]*(pqR b k).2) (81)) else if jx=14 then some (gEq (Zu 1 [2,(sq-sp)+(sr-sq)]-Zu 1 [sq-sp]*(pqR b k).2) (112)) else if jx=15 then some (gAq W24.heap.size) else none) (by kernel_rfl) (by kernel_rfl) ?_
   simp only [zt1,zt2,zt3,zt4]
   refine wpG_quiet 3 (by kernel_rfl) (by rfl) (by decide) ?_
   simp only [zt1,zt2,zt3,zt4]
   repeat (go_big_quiet_step (fail))
   refine wpQuiet_nil ?_
   refine wpG_new rfl rfl (fun w1 hb1 _ => gI_new (T:=3) (l:=[2,(sq-sp)+(sr-sq)]) (Nat.le_of_ble_eq_true rfl) (by go_simp)) ?_
   rintro _ ⟨g125,rfl⟩
   simp only [Act.put,zs1,zs2,zs3]
   refine wpG_call rfl rfl ?_ ?_
   ·intro w1 hb1 hk
    have h125:IntsAt w1 w1.heap.size (.slice (some ⟨g125,0,none⟩) 2 2) [2,(sq-sp)+(sr-sq)]:=hk 125 (of_decide_eq_true (by kernel_rfl))
    have hC:=rgPart 1 _ [2,(sq-sp)+(sr-sq)] w1 h125 (Nat.le_of_ble_eq_true rfl) (tiny2 (by decide) hs2) (by decide) (by decide)
    exact ⟨134,#[.slice (some ⟨g125,0,none⟩) 2 2,.int .i64 1],by go_simp,Zg hC⟩
   rintro _ ⟨r126b1,r126A1,r126l1,r126c1,r126b2,r126A2,r126l2,r126c2,rfl⟩
   simp only [Act.put,zs1,zs2,zs3]
   refine wpG_quiet 1 (by kernel_rfl) (by rfl) (by decide) ?_
   simp only [zt1,zt2,zt3,zt4]
   repeat (go_big_quiet_step (fail))
   refine wpQuiet_nil ?_
   refine wpG_new rfl rfl (fun w1 hb1 _ => gI_new (T:=3) (l:=[sq-sp]) (Nat.le_of_ble_eq_true rfl) (by go_simp)) ?_
   rintro _ ⟨g128,rfl⟩
   simp only [Act.put,zs1,zs2,zs3]
   refine wpG_call rfl rfl ?_ ?_
   ·intro w1 hb1 hk
    have h128:IntsAt w1 w1.heap.size (.slice (some ⟨g128,0,none⟩) 1 1) [sq-sp]:=hk 128 (of_decide_eq_true (by kernel_rfl))
    have hC:=rgPart 1 _ [sq-sp] w1 h128 (Nat.le_of_ble_eq_true rfl) (tiny1 hs1) (by decide) (by decide)
    exact ⟨134,#[.slice (some ⟨g128,0,none⟩) 1 1,.int .i64 1],by go_simp,Zg hC⟩
   rintro _ ⟨r129b1,r129A1,r129l1,r129c1,r129b2,r129A2,r129l2,r129c2,rfl⟩
   simp only [Act.put,zs1,zs2,zs3]
   refine wpG_quiet 5 (by kernel_rfl) (by rfl) (by decide) ?_
   simp only [zt1,zt2,zt3,zt4]
   repeat (go_big_quiet_step (fail))
   refine wpQuiet_nil ?_
   refine wpG_call rfl rfl ?_ ?_
   ·intro w1 hb1 hk
    have h129:ExqAt w1 w1.heap.size (.agg #[.bool r129b1,.slice r129A1 r129l1 r129c1,.bool r129b2,.slice r129A2 r129l2 r129c2]) (Zu 1 [sq-sp]) (30):=hk 129 (of_decide_eq_true (by kernel_rfl))
    have hC:=rgETimes _ _ _ _ 30 51 w1 h129 (HO.out.grow hb1) (by decide)
    exact ⟨135,#[.agg #[.bool r129b1,.slice r129A1 r129l1 r129c1,.bool r129b2,.slice r129A2 r129l2 r129c2],.agg #[.bool pb1,.slice pA1 pl1 pc1,.bool pb2,.slice pA2 pl2 pc2]],by go_simp,Zg hC⟩
   rintro _ ⟨r135b1,r135A1,r135l1,r135c1,r135b2,r135A2,r135l2,r135c2,rfl⟩
   simp only [Act.put,zs1,zs2,zs3]
   refine wpG_call rfl rfl ?_ ?_
   ·intro w1 hb1 hk
    have h126:ExqAt w1 w1.heap.size (.agg #[.bool r126b1,.slice r126A1 r126l1 r126c1,.bool r126b2,.slice r126A2 r126l2 r126c2]) (Zu 1 [2,(sq-sp)+(sr-sq)]) (30):=hk 126 (of_decide_eq_true (by kernel_rfl))
    have h135:ExqAt w1 w1.heap.size (.agg #[.bool r135b1,.slice r135A1 r135l1 r135c1,.bool r135b2,.slice r135A2 r135l2 r135c2]) (Zu 1 [sq-sp]*(pqR b k).2) (81):=hk 135 (of_decide_eq_true (by kernel_rfl))
    have hC:=rgELess _ _ _ _ 30 81 w1 h126 h135 (by decide)
    exact ⟨136,#[.agg #[.bool r126b1,.slice r126A1 r126l1 r126c1,.bool r126b2,.slice r126A2 r126l2 r126c2],.agg #[.bool r135b1,.slice r135A1 r135l1 r135c1,.bool r135b2,.slice r135A2 r135l2 r135c2]],by go_simp,Zg hC⟩
   rintro _ ⟨r136b1,r136A1,r136l1,r136c1,r136b2,r136A2,r136l2,r136c2,rfl⟩
   simp only [Act.put,zs1,zs2,zs3]
   refine wpG_new rfl rfl (fun w1 hb1 _ => gAq_new hb1.size (by go_simp)) ?_
   rintro _ ⟨g14,rfl⟩
   simp only [Act.put,zs1,zs2,zs3]
   refine Zc ?_
   intro w8 hb8 hF
   have h26:ExqAt w8 w8.heap.size (.agg #[.bool r136b1,.slice r136A1 r136l1 r136c1,.bool r136b2,.slice r136A2 r136l2 r136c2]) (Zu 1 [2,(sq-sp)+(sr-sq)]-Zu 1 [sq-sp]*(pqR b k).2) 112:=hF 136
   have h5:AtBoxQ W24.heap.size (.pointer (some ⟨g14,0,none⟩)) w8:=hF 14
   obtain ⟨g5',e5,hg5,hD5⟩:=h5
   injection e5 with e5
   injection e5 with e5
   injection e5 with e5 _ _
   subst e5
   have q0:=hD5.cell 0
   have q1:=hD5.cell 1
   have q2:=hD5.cell 2
   have q3:=hD5.cell 3
   simp only [zq1,zq2,zq3] at q0 q1 q2 q3
   have fz0:=hD5.frozen (0)
   have fz1:=hD5.frozen (1)
   have fz2:=hD5.frozen (2)
   have fz3:=hD5.frozen (3)
   have hEq:Zu 1 [2,(sq-sp)+(sr-sq)]-Zu 1 [sq-sp]*(pqR b k).2=midR b (pqR b k).2 (k+1):=by
    unfold midR
    rw [prod_two1,prod_one,HK.out,HN.out]
   rw [hEq] at h26
   have HX14:=zh (EqBox.first hD5 h26)
   have HM7:=HM9.out.grow hb8
   have l7:=HM9.out.r7.lt
   have l8:=HM9.out.r8.lt
   have l9:=HM9.out.r9.lt
   have l0:=HM9.out.b7
   have HM8:=zh (HM7.far (D:=g14) (by omega) (by omega) (by omega) (by omega) hD5.kind (.bool r136b1) (.slice r136A1 r136l1 r136c1) (.bool r136b2) (.slice r136A2 r136l2 r136c2))
   have l13:g13<W24.heap.size:=by
    obtain ⟨_,_,_,_,_,_,_,_,h,-⟩:=HX13b.out
    exact h.lt
   have Hlt14:Hid (g7<g14∧g8<g14∧g9<g14):=by unfold Hid;omega
   have HX13c:=zh ((HX13b.out.grow hb8).far4 (D:=g14) (by omega) hD5.kind (.bool r136b1) (.slice r136A1 r136l1 r136c1) (.bool r136b2) (.slice r136A2 r136l2 r136c2))
   clear hF h26 hD5 hEq uo0 uo1 uo2 uo3 hb8 hg5 HM7 l7 l8 l9 l0 l13 HM9 HX13b HO v5 hs2
   go_upto_region 19 with fail
   simp only [Nat.zero_add] at HX13c
   generalize (((((w8).setCell ⟨g14,0,none⟩ (.bool r136b1)).setCell ⟨g14,1,none⟩ (.slice r136A1 r136l1 r136c1)).setCell ⟨g14,2,none⟩ (.bool r136b2)).setCell ⟨g14,3,none⟩ (.slice r136A2 r136l2 r136c2))=W25 at *
   clear q0 q1 q2 q3 fz0 fz1 fz2 fz3
   obtain ⟨sb1,sA1,sl1,sc1,sb2,sA2,sl2,sc2,hB,hE⟩:=HX13c.out
   have y0:=hB.cell 0
   have y1:=hB.cell 1
   have y2:=hB.cell 2
   have y3:=hB.cell 3
   simp only [zq1,zq2,zq3] at y0 y1 y2 y3
   obtain ⟨tb1,tA1,tl1,tc1,tb2,tA2,tl2,tc2,hB2,hE2⟩:=HX14.out
   have t0:=hB2.cell 0
   have t1:=hB2.cell 1
   have t2:=hB2.cell 2
   have t3:=hB2.cell 3
   simp only [zq1,zq2,zq3] at t0 t1 t2 t3
   have HE:=zh hE
   have HE2:=zh hE2
   clear hB hB2 hE hE2
   go_wp2_with fail
   refine (rgEOver _ _ _ _ 70133 112 W25 HE.out HE2.out (mid_pos Hb.out hkl) (by decide)).mono ?_
   rintro e w26 ⟨v26,rfl,hb26,hE26⟩
   obtain ⟨xb1,xA1,xl1,xc1,xb2,xA2,xl2,xc2,_,_,rfl,-⟩:=exq_form hE26
   have HM10:=zh (HM8.out.grow hb26)
   have HX14b:=zh (HX14.out.grow hb26)
   have hpq:=pq_fst b k
   rw [HK.out] at hpq
   rw [hpq] at hE26
   have HE26:=zh hE26
   clear hE26 hb26 HM8 HX14 HX13c HE HE2 y0 y1 y2 y3 t0 t1 t2 t3 hpq
   go_wp2_with fail
   refine (rgLowerF _ (pqR b (k+1)).1 70245 5200 w26 HE26.out (by decide) (pq_fits Hb.out (diag_nz Hb.out) (k+1) (by omega)).1).mono ?_
   rintro e w27 ⟨v27,rfl,hb27,hE27⟩
   obtain ⟨zb1,zA1,zl1,zc1,zb2,zA2,zl2,zc2,_,_,rfl,-⟩:=exq_form hE27
   have HM11:=zh (HM10.out.grow hb27)
   have HX14c:=zh (HX14b.out.grow hb27)
   have HE27:=zh (hE27.more (K':=67530) (by decide))
   clear hE27 hb27 HM10 HX14b HE26
   obtain ⟨pb1,pA1,pl1,pc1,pb2,pA2,pl2,pc2,o0,o1,o2,o3,oE⟩:=HM11.out.r8.read (i:=ii) (by omega)
   have fo0:=HM11.out.r8.frozen (ii*4)
   have fo1:=HM11.out.r8.frozen (ii*4+1)
   have fo2:=HM11.out.r8.frozen (ii*4+2)
   have fo3:=HM11.out.r8.frozen (ii*4+3)
   clear oE
   go_upto_region 20 with fail
   have HM12:=zh (HM11.out.put8 (i:=ii) (o:=ii*4) i1 rfl HE27.out)
   obtain ⟨tb1,tA1,tl1,tc1,tb2,tA2,tl2,tc2,hB2,hE2⟩:=HX14c.out
   have HX14d:=zh (HX14c.out.far4 (D:=g8) (o:=ii*4) (by have:=HM11.out.r8.lt;have:=Hlt14.out;omega) (HM11.out.r8.kind (i:=ii) i1) (.bool zb1) (.slice zA1 zl1 zc1) (.bool zb2) (.slice zA2 zl2 zc2))
   clear HM11 HE27 HX14c hB2 hE2 o0 o1 o2 o3 fo0 fo1 fo2 fo3
   generalize (((((w27).setCell ⟨g8,ii*4,none⟩ (.bool zb1)).setCell ⟨g8,ii*4+1,none⟩ (.slice zA1 zl1 zc1)).setCell ⟨g8,ii*4+2,none⟩ (.bool zb2)).setCell ⟨g8,ii*4+3,none⟩ (.slice zA2 zl2 zc2))=W28 at *
   obtain ⟨tb1,tA1,tl1,tc1,tb2,tA2,tl2,tc2,hB2,hE2⟩:=HX14d.out
   have t0:=hB2.cell 0
   have t1:=hB2.cell 1
   have t2:=hB2.cell 2
   have t3:=hB2.cell 3
   simp only [zq1,zq2,zq3] at t0 t1 t2 t3
   have HE2:=zh hE2
   have hs2:(sr-sq).natAbs≤1152921504606846976:=by omega
   have hpq:=pq_snd b k
   rw [HN.out] at hpq
   have HPQ:=zh hpq
   clear hpq
   have HFi:=zh (pq_fits Hb.out (diag_nz Hb.out) (k+1) (by omega)).2
   clear hB2 hE2
   have ut0:=HeldB.cell t0
   have ut1:=HeldB.cell t1
   have ut2:=HeldB.cell t2
   have ut3:=HeldB.cell t3
   clear t0 t1 t2 t3
   refine wp_region_grow 9 (fun jx => if jx=3 then some (gI [sr-sq]) else if jx=4 then some (gEq (Zu 1 [sr-sq]) (30)) else if jx=6 then some (gEq ((pqR b (k+1)).2) (142)) else if jx=7 then some (gEq ((pqR b (k+1)).2) (51)) else none) (by kernel_rfl) (by kernel_rfl) ?_
   simp only [zt1,zt2,zt3,zt4]
   refine wpG_quiet 3 (by kernel_rfl) (by rfl) (by decide) ?_
   simp only [zt1,zt2,zt3,zt4]
   repeat (go_big_quiet_step (fail))
   refine wpQuiet_nil ?_
   refine wpG_new rfl rfl (fun w1 hb1 _ => gI_new (T:=3) (l:=[sr-sq]) (Nat.le_of_ble_eq_true rfl) (by go_simp)) ?_
   rintro _ ⟨g147,rfl⟩
   simp only [Act.put,zs1,zs2,zs3]
   refine wpG_call rfl rfl ?_ ?_
   ·intro w1 hb1 hk
    have h147:IntsAt w1 w1.heap.size (.slice (some ⟨g147,0,none⟩) 1 1) [sr-sq]:=hk 147 (of_decide_eq_true (by kernel_rfl))
    have hC:=rgPart 1 _ [sr-sq] w1 h147 (Nat.le_of_ble_eq_true rfl) (tiny1 hs2) (by decide) (by decide)
    exact ⟨134,#[.slice (some ⟨g147,0,none⟩) 1 1,.int .i64 1],by go_simp,Zg hC⟩
   rintro _ ⟨r148b1,r148A1,r148l1,r148c1,r148b2,r148A2,r148l2,r148c2,rfl⟩
   simp only [Act.put,zs1,zs2,zs3]
   refine wpG_quiet 1 (by kernel_rfl) (by rfl) (by decide) ?_
   simp only [zt1,zt2,zt3,zt4]
   repeat (go_big_quiet_step (fail))
   refine wpQuiet_nil ?_
   refine wpG_call rfl rfl ?_ ?_
   ·intro w1 hb1 hk
    have h148:ExqAt w1 w1.heap.size (.agg #[.bool r148b1,.slice r148A1 r148l1 r148c1,.bool r148b2,.slice r148A2 r148l2 r148c2]) (Zu 1 [sr-sq]) (30):=hk 148 (of_decide_eq_true (by kernel_rfl))
    have hC:=rgEOver _ _ _ _ 30 112 w1 h148 (HE2.out.grow hb1) (mid_pos Hb.out hkl) (by decide)
    rw [HPQ.out] at hC
    exact ⟨173,#[.agg #[.bool r148b1,.slice r148A1 r148l1 r148c1,.bool r148b2,.slice r148A2 r148l2 r148c2],.agg #[.bool tb1,.slice tA1 tl1 tc1,.bool tb2,.slice tA2 tl2 tc2]],by go_simp,Zg hC⟩
   rintro _ ⟨r150b1,r150A1,r150l1,r150c1,r150b2,r150A2,r150l2,r150c2,rfl⟩
   simp only [Act.put,zs1,zs2,zs3]
   refine wpG_call rfl rfl ?_ ?_
   ·intro w1 hb1 hk
    have h150:ExqAt w1 w1.heap.size (.agg #[.bool r150b1,.slice r150A1 r150l1 r150c1,.bool r150b2,.slice r150A2 r150l2 r150c2]) ((pqR b (k+1)).2) (142):=hk 150 (of_decide_eq_true (by kernel_rfl))
    have hC:=rgLowerF _ _ 142 38 w1 h150 (by decide) HFi.out
    exact ⟨137,#[.agg #[.bool r150b1,.slice r150A1 r150l1 r150c1,.bool r150b2,.slice r150A2 r150l2 r150c2]],by go_simp,Zg hC⟩
   rintro _ ⟨r151b1,r151A1,r151l1,r151c1,r151b2,r151A2,r151l2,r151c2,rfl⟩
   simp only [Act.put,zs1,zs2,zs3]
   refine wpG_quiet 1 (by kernel_rfl) (by rfl) (by decide) ?_
   simp only [zt1,zt2,zt3,zt4]
   repeat (go_big_quiet_step (fail))
   refine wpQuiet_nil ?_
   refine Zc ?_
   intro w8 hb8 hF
   have h26:ExqAt w8 w8.heap.size (.agg #[.bool r151b1,.slice r151A1 r151l1 r151c1,.bool r151b2,.slice r151A2 r151l2 r151c2]) (pqR b (k+1)).2 51:=hF 151
   have HM13:=zh (HM12.out.grow hb8)
   have HE:=zh h26
   clear hF h26 hb8 HM12 HX14d HE2 ut0 ut1 ut2 ut3 HPQ HFi
   obtain ⟨pb1,pA1,pl1,pc1,pb2,pA2,pl2,pc2,o0,o1,o2,o3,oE⟩:=HM13.out.r9.read (i:=ii) (by omega)
   have fo0:=HM13.out.r9.frozen (ii*4)
   have fo1:=HM13.out.r9.frozen (ii*4+1)
   have fo2:=HM13.out.r9.frozen (ii*4+2)
   have fo3:=HM13.out.r9.frozen (ii*4+3)
   clear oE
   go_wp2_with fail
   have HM14:Hid (MoQ w (((((w8).setCell ⟨g9,ii*4,none⟩ (.bool r151b1)).setCell ⟨g9,ii*4+1,none⟩ (.slice r151A1 r151l1 r151c1)).setCell ⟨g9,ii*4+2,none⟩ (.bool r151b2)).setCell ⟨g9,ii*4+3,none⟩ (.slice r151A2 r151l2 r151c2)) b #[.string b.name,.int .i64 b.len,.slice (some ⟨bs,os,none⟩) b.sup.length cs,.slice Al b.loads.length cl,.int .i64 b.even] g7 g8 g9 (outF b 0) (pF b (k+1)) (qF b (k+1))):=(HM13.out.put9 (i:=ii) (o:=ii*4) i1 rfl HE.out).weak (fun _ _ _ h => h) (fun j q _ h => by
    unfold pF at h
    unfold putQ pF
    rw [← Hii.out]
    by_cases e:j=k+1
    ·subst e
     rw [if_pos (Nat.le_refl _)] at h
     rw [if_pos rfl]
     exact h
    ·rw [if_neg e]
     by_cases e2:j≤k
     ·rw [if_pos (by omega)] at h
      rw [if_pos e2]
      exact h
     ·rw [if_neg (by omega)] at h
      cases h) (fun j q _ h => by
    unfold qF at h
    unfold putQ qF
    rw [← Hii.out]
    by_cases e:j=k+1
    ·subst e
     rw [if_pos (Nat.le_refl _)] at h
     rw [if_pos rfl]
     exact h
    ·rw [if_neg e]
     by_cases e2:j≤k
     ·rw [if_pos (by omega)] at h
      rw [if_pos e2]
      exact h
     ·rw [if_neg (by omega)] at h
      cases h)
   clear HM13 HE o0 o1 o2 o3 fo0 fo1 fo2 fo3
   go_roundw
   case rel => exact ⟨k+1,.inr (by omega),by go_num,HM14⟩
   case measure => have:=Hii.out;simp [intOf];omega
  ·skip
   have k1:¬ (k:Int)+1<(b.sup.length:Int)-1:=by omega
   have Hkl:Hid (¬ k+2<b.sup.length):=hkl
   have v6:IntKind.i64.wrap ((b.sup.length:Int)-2)=((b.sup.length-1:Nat):Int)-1:=(IntWalk.i64_in _ (by omega)).trans (by omega)
   have HM1:Hid (MoQ w wr b #[.string b.name,.int .i64 b.len,.slice (some ⟨bs,os,none⟩) b.sup.length cs,.slice Al b.loads.length cl,.int .i64 b.even] g7 g8 g9 (outF b (b.sup.length-1-(b.sup.length-1))) (pF b k) (qF b k)):=by rw [Nat.sub_self];exact HM
   clear HM hkl
   go_wp2_with fail
   go_loopw [15] (fun ix wr => ∃ i:Nat,i+1≤b.sup.length∧ix = .int .i64 ((i:Int)-1)∧Hid (MoQ w wr b #[.string b.name,.int .i64 b.len,.slice (some ⟨bs,os,none⟩) b.sup.length cs,.slice Al b.loads.length cl,.int .i64 b.even] g7 g8 g9 (outF b (b.sup.length-1-i)) (pF b k) (qF b k))) (fun ix _ => (intOf ix).toNat)
   case atStart => exact ⟨b.sup.length-1,by omega,rfl,HM1⟩
   case round =>
    clear HM1
    obtain ⟨i,hi,rfl,HM⟩:=hrel
    by_cases hi2:2≤i
    ·skip
     obtain ⟨p,rfl⟩:∃ p,i=p+2:=⟨i-2,by omega⟩
     obtain ⟨jj,hjj⟩:∃ jj,p+1=jj:=⟨_,rfl⟩
     obtain ⟨ll,hll⟩:∃ ll,p+2=ll:=⟨_,rfl⟩
     have e1:((p+2:Nat):Int)-1=(jj:Int):=by omega
     rw [e1]
     have hj1:1≤jj:=by omega
     have i0:(0:Int)<(jj:Int):=by omega
     have i00:(0:Int)≤(jj:Int):=by omega
     have i4:(jj:Int)<(b.sup.length:Int):=by omega
     have i5:(0:Int)≤(ll:Int):=by omega
     have i6:(ll:Int)<(b.sup.length:Int):=by omega
     have v1:IntKind.i64.wrap ((jj:Int)+1)=(ll:Int):=(IntWalk.i64_in _ (by omega)).trans (by omega)
     have v2:IntKind.i64.wrap ((jj:Int)-1)=((jj:Nat):Int)-1:=IntWalk.i64_in _ (by omega)
     have Hjj:=zh hjj
     have Hll:=zh hll
     have j1:jj<b.sup.length:=by omega
     have l1:ll<b.sup.length:=by omega
     have HMs:Hid ((pqR b jj).1-(pqR b jj).2*Zx b ll=Zx b jj):=by
      unfold Hid
      have:=mom_prev Hb.out (i:=jj) hj1 (by omega)
      rw [show jj+1=ll by omega] at this
      exact this
     have HFi:=zh (mom_fit Hb.out j1)
     obtain ⟨ab1,aA1,al1,ac1,ab2,aA2,al2,ac2,a0,a1,a2,a3,aE⟩:=HM.out.r8.read (i:=jj) j1
     obtain ⟨cb1,cA1,cl1,cc1,cb2,cA2,cl2,cc2,c0,c1,c2,c3,cE⟩:=HM.out.r9.read (i:=jj) j1
     obtain ⟨db1,dA1,dl1,dc1,db2,dA2,dl2,dc2,d0,d1,d2,d3,dE⟩:=HM.out.r7.read (i:=ll) l1
     have HA:=zh (aE (pqR b jj).1 (if_pos (by have:=Hkl.out;omega)))
     have HC:=zh (cE (pqR b jj).2 (if_pos (by have:=Hkl.out;omega)))
     have HD:=zh (dE (Zx b ll) (if_pos (.inr (by omega))))
     clear aE cE dE e1 hjj hll
     go_upto_region 24 with fail
     have ua0:=HeldB.cell a0
     have ua1:=HeldB.cell a1
     have ua2:=HeldB.cell a2
     have ua3:=HeldB.cell a3
     have uc0:=HeldB.cell c0
     have uc1:=HeldB.cell c1
     have uc2:=HeldB.cell c2
     have uc3:=HeldB.cell c3
     have ud0:=HeldB.cell d0
     have ud1:=HeldB.cell d1
     have ud2:=HeldB.cell d2
     have ud3:=HeldB.cell d3
     clear a0 a1 a2 a3 c0 c1 c2 c3 d0 d1 d2 d3
     refine wp_region_grow 19 (fun jx => if jx=15 then some (gEq ((pqR b jj).2*Zx b ll) (67581)) else if jx=16 then some (gEq (Zx b jj) (135112)) else if jx=17 then some (gEq (Zx b jj) (67530)) else none) (by kernel_rfl) (by kernel_rfl) ?_
     simp only [zt1,zt2,zt3,zt4]
     refine wpG_quiet 15 (by kernel_rfl) (by rfl) (by decide) ?_
     simp only [zt1,zt2,zt3,zt4]
     repeat (go_big_quiet_step (fail))
     refine wpQuiet_nil ?_
     refine wpG_call rfl rfl ?_ ?_
     ·intro w1 hb1 hk
      have hC:=rgETimes _ _ _ _ 51 67530 w1 (HC.out.grow hb1) (HD.out.grow hb1) (by decide)
      exact ⟨135,#[.agg #[.bool cb1,.slice cA1 cl1 cc1,.bool cb2,.slice cA2 cl2 cc2],.agg #[.bool db1,.slice dA1 dl1 dc1,.bool db2,.slice dA2 dl2 dc2]],by go_simp,Zg hC⟩
     rintro _ ⟨r174b1,r174A1,r174l1,r174c1,r174b2,r174A2,r174l2,r174c2,rfl⟩
     simp only [Act.put,zs1,zs2,zs3]
     refine wpG_call rfl rfl ?_ ?_
     ·intro w1 hb1 hk
      have h174:ExqAt w1 w1.heap.size (.agg #[.bool r174b1,.slice r174A1 r174l1 r174c1,.bool r174b2,.slice r174A2 r174l2 r174c2]) ((pqR b jj).2*Zx b ll) (67581):=hk 174 (of_decide_eq_true (by kernel_rfl))
      have hC:=rgELess _ _ _ _ 67530 67581 w1 (HA.out.grow hb1) h174 (by decide)
      rw [HMs.out] at hC
      exact ⟨136,#[.agg #[.bool ab1,.slice aA1 al1 ac1,.bool ab2,.slice aA2 al2 ac2],.agg #[.bool r174b1,.slice r174A1 r174l1 r174c1,.bool r174b2,.slice r174A2 r174l2 r174c2]],by go_simp,Zg hC⟩
     rintro _ ⟨r175b1,r175A1,r175l1,r175c1,r175b2,r175A2,r175l2,r175c2,rfl⟩
     simp only [Act.put,zs1,zs2,zs3]
     refine wpG_call rfl rfl ?_ ?_
     ·intro w1 hb1 hk
      have h175:ExqAt w1 w1.heap.size (.agg #[.bool r175b1,.slice r175A1 r175l1 r175c1,.bool r175b2,.slice r175A2 r175l2 r175c2]) (Zx b jj) (135112):=hk 175 (of_decide_eq_true (by kernel_rfl))
      have hC:=rgLowerF _ _ 135112 50647 w1 h175 (by decide) HFi.out
      exact ⟨137,#[.agg #[.bool r175b1,.slice r175A1 r175l1 r175c1,.bool r175b2,.slice r175A2 r175l2 r175c2]],by go_simp,Zg hC⟩
     rintro _ ⟨r176b1,r176A1,r176l1,r176c1,r176b2,r176A2,r176l2,r176c2,rfl⟩
     simp only [Act.put,zs1,zs2,zs3]
     refine wpG_quiet 1 (by kernel_rfl) (by rfl) (by decide) ?_
     simp only [zt1,zt2,zt3,zt4]
     repeat (go_big_quiet_step (fail))
     refine wpQuiet_nil ?_
     refine Zc ?_
     intro w8 hb8 hF
     have h26:ExqAt w8 w8.heap.size (.agg #[.bool r176b1,.slice r176A1 r176l1 r176c1,.bool r176b2,.slice r176A2 r176l2 r176c2]) (Zx b jj) 67530:=hF 176
     have HM13:=zh (HM.out.grow hb8)
     have HE:=zh h26
     clear hF h26 hb8 HM HA HC HD HMs HFi ua0 ua1 ua2 ua3 uc0 uc1 uc2 uc3 ud0 ud1 ud2 ud3
     obtain ⟨pb1,pA1,pl1,pc1,pb2,pA2,pl2,pc2,o0,o1,o2,o3,oE⟩:=HM13.out.r7.read (i:=jj) j1
     have fo0:=HM13.out.r7.frozen (jj*4)
     have fo1:=HM13.out.r7.frozen (jj*4+1)
     have fo2:=HM13.out.r7.frozen (jj*4+2)
     have fo3:=HM13.out.r7.frozen (jj*4+3)
     clear oE
     go_wp2_with fail
     have HM14:Hid (MoQ w (((((w8).setCell ⟨g7,jj*4,none⟩ (.bool r176b1)).setCell ⟨g7,jj*4+1,none⟩ (.slice r176A1 r176l1 r176c1)).setCell ⟨g7,jj*4+2,none⟩ (.bool r176b2)).setCell ⟨g7,jj*4+3,none⟩ (.slice r176A2 r176l2 r176c2)) b #[.string b.name,.int .i64 b.len,.slice (some ⟨bs,os,none⟩) b.sup.length cs,.slice Al b.loads.length cl,.int .i64 b.even] g7 g8 g9 (outF b (b.sup.length-1-jj)) (pF b k) (qF b k)):=(HM13.out.put7 (i:=jj) (o:=jj*4) j1 rfl HE.out).weak (fun j q hj h => by
      unfold outF at h
      unfold putQ outF
      by_cases e:j=jj
      ·subst e
       rw [if_pos (by omega)] at h
       rw [if_pos rfl]
       exact h
      ·rw [if_neg e]
       have h1:=Hjj.out
       by_cases e2:j=0∨b.sup.length≤j+1+(b.sup.length-1-jj)
       ·rw [if_pos e2] at h
        rw [if_pos (by omega)]
        exact h
       ·rw [if_neg e2] at h
        cases h) (fun _ _ _ h => h) (fun _ _ _ h => h)
     clear HM13 HE o0 o1 o2 o3 fo0 fo1 fo2 fo3
     go_roundw
     case rel => exact ⟨jj,by omega,rfl,HM14⟩
     case measure => have:=Hjj.out;simp [intOf];omega
    ·skip
     have k2:¬ (0:Int)<(i:Int)-1:=by omega
     have HR:=zh (HM.out.r7.weak (f':=fun j => some (Zx b j)) (fun j q hj h => by
      unfold outF
      rw [if_pos (by omega)]
      exact h))
     have HBE:=zh HM.out.bel
     clear HM
     go_wp2_with fail
     refine bodyPost_ret (results_tmp rfl _ _ _) (by rfl) ?_
     exact ⟨HBE.out,_,rfl,HR.out⟩
end Go.Proofs.YtfhmbechennkbaaGreatDoor
