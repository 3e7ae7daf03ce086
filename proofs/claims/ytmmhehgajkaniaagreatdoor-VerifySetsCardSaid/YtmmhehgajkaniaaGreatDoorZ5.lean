/- Lemmas. -/
import Derived.LoopIn
import Derived.LoopNIn
import Derived.OwnWalkIn
import Derived.RangeFuncBox
import Derived.TacticsInMore
import Derived.Test.YtmmhehgajkaniaaGreatDoorZ4
namespace Go.Proofs.YtmmhehgajkaniaaGreatDoor
set_option maxRecDepth 100000
set_option maxHeartbeats 40000000
open Go.RowKit Go.Shelf
theorem mO (l:List Int) (x:Int):du (l++[x])=du l*x:=by simp[du,List.foldl_append]
theorem AZ {l:List Int} (h:∀x∈l,x.natAbs ≤ 4611686018427387904):∀k,k ≤ l.length→(du (l.take k)).natAbs < 4294967296^(2 * k + 1)
 | 0,_=>by simp[du]
 | k+1,hk=>by
  have ih:=AZ h k (by omega);rw[aY l k (by omega),mO];have h1:=h l[k] (yV (by omega));have h2:l[k].natAbs<4294967296^2:=by
   have:(4294967296:Nat)^2=18446744073709551616:=by decide
   omega
  have h3:=fm ih h2;rwa [show 2*k+1+2=2*(k+1)+1 by omega] at h3
theorem Bm {x:Int} (h:x.natAbs≤4611686018427387904):x.natAbs<4294967296^20:=by
 have e:(4294967296:Nat)^2=18446744073709551616:=by decide
 exact fa (K:=2) (by omega) (by decide)
def NumBox (w:World) (D:Nat) (z:Int):Prop:=∃b A l c,Blk w D 152 #[.bool b,.slice A l c]∧NumAt w (.agg #[.bool b,.slice A l c]) z
theorem NumBox.grow {w w':World} {D:Nat} {z:Int} (h:NumBox w D z) (hb:Below w.heap.size w w'):NumBox w' D z:=by
 obtain⟨b,A,l,c,h1,h2⟩:=h;exact⟨b,A,l,c,h1.below hb h1.lt,h2.grow hb⟩
theorem NumBox.put {w:World} {D:Nat} {z z0:Int} (h0:NumBox w D z0) {b:Bool} {A:Option Addr} {l c:Nat} (h:NumAt w (.agg #[.bool b,.slice A l c]) z):NumBox ((w.setCell ⟨D,0,none⟩ (.bool b)).setCell ⟨D,1,none⟩ (.slice A l c)) D z:=by
 obtain⟨b0,A0,l0,c0,h1,-⟩:=h0;exact⟨b,A,l,c,(h1.set_ 0 _).set_ 1 _,(h.setBox h1 (by decide) 0 _).setBox (h1.set_ 0 _) (by decide) 1 _⟩
theorem fQ (by_:Int) (v:Value) (l:List Int) (w:World) (hv:bg w w.heap.size v l) (hl:l.length≤8) (hx:∀x∈l,x.natAbs≤4611686018427387904) (eH:by_≠0) (ak:by_.natAbs≤4611686018427387904) :
  Calls Tryz.prog 159 #[.int .i64 by_,v] w (MakesE (Zu by_ l) w):=by
 obtain⟨A,c,rfl,fU,cM,aj⟩:=hv.open_;unfold maxLen at cM;have HX:=zh hx;have HC:=zh aj;have Xt:=zh eH;have cP:=zh ak;have HR:=zh (Blk.new w 154 (zD false none 0 0 false none 0 0));have HB:=zh ((yB _ w).alloc (yA _) (.cells (zD false none 0 0 false none 0 0) 154));clear aj hv hx eH ak;go_enter Tryz.func159,Tryz.ntmps159;go_wp2_with fail;generalize w.alloc (.cells (zD false none 0 0 false none 0 0) 154)=W0 at*
 refine (G4 1 W0 (by decide) (by decide)).mono ?_;rintro e w1 ⟨ak,v1,rfl,sR⟩;obtain⟨n1,A1,l1,c1,rfl,-⟩:=sR.form;have KX:=zh ((HR.o.below ak HR.o.lt).alloc (.cells #[.bool n1,.slice A1 l1 c1] 152));have K6:=HB.o.trans (ak.mono HB.o.size);have WQ:=zh (K6.alloc K6.size (.cells #[.bool n1,.slice A1 l1 c1] 152));have zx:Y0 (NumBox (w1.alloc (.cells #[.bool n1,.slice A1 l1 c1] 152)) w1.heap.size (du (l.take 0))):=⟨n1,A1,l1,c1,Blk.new _ _ _,sR.grow ((yB _ _).alloc (yA _) _)⟩
 have PE:Y0 (w.heap.size<w1.heap.size):=yK HR.o.lt ak.size;clear HR HB ak sR K6;go_wp2_with fail;generalize eb:w1.heap.size=D5 at*;clear eb;go_loopw [11] (fun ix wr=>∃k:Nat,k≤l.length∧ix=.int .i64 k∧Y0 (NumBox wr D5 (du (l.take k)))∧Y0 (Blk wr w.heap.size 154 (zD false none 0 0 false none 0 0))∧Y0 (Below w.heap.size w wr)) (fun ix _=>l.length-(intOf ix).toNat)
 case atStart=>exact⟨0,yI _,rfl,zx,KX,WQ⟩
 clear zx KX WQ;obtain⟨k,hk,rfl,HN,HR,HB⟩:=hrel;have k0:(0:Int)≤(k:Int):=yE _;obtain⟨nb,nA,nl,nc,hNb,hNn⟩:=HN.o;obtain⟨q0,q1⟩:=hNb.c2;have HNb:=zh hNb;have WB:=zh hNn;have HPk:=zh (AZ HX.o k hk);clear hNb hNn;by_cases ay:k<l.length
 ·have k1:(k:Int)<(l.length:Int):=by omega
  obtain⟨b2,o2,rfl,ao,eG⟩:=HC.o k ay;have hx:=(HB.o.cell (p:=⟨b2,o2+k,none⟩) ao).trans (eG k ay);have HXk:=zh (HX.o l[k] (yV ay));have HP:Y0 (du (l.take (k+1))=du (l.take k)*l[k]):=by unfold Y0;rw[aY l k ay,mO]
  clear eG ao;generalize l[k]=x at*;go_wp2_with fail;have u0:=YL q0;have u1:=YL q1;clear hx q0 q1;refine af 4 (fun i=>if i=2 then some (gN x) else if i=3 then some (gN (du (l.take k)*x)) else none) (by kernel_rfl) (by kernel_rfl) ?_;simp only[aM,aP,aN,aO];refine zw 2 ?_;simp only[aM,aP,aN,aO]
  repeat (go_big_quiet_step (fail))
  refine YE ?_;refine ae rfl rfl (fun w1 ak _=>⟨155,#[.int .i64 x],by go_simp,MakesN.g (G4 x w1 (by have:=HXk.o;omega) (by have:=HXk.o;omega))⟩) ?_;rintro _ ⟨rb,rA,rl,rc,rfl⟩;simp only[Act.put,aC,aB,aA];refine ae rfl rfl ?_ ?_
  ·intro w1 ak Oi;have h17:NumAt w1 (.agg #[.bool rb,.slice rA rl rc]) x:=Oi 17 (by decide);exact zc (MakesN.g (li _ _ _ _ 20 w1 (WB.o.grow ak) h17 (by decide) (fa HPk.o (by omega)) (Bm HXk.o)))
  rintro _ ⟨sb,sA,sl,sc,rfl⟩;simp only[Act.put,aC,aB,aA];refine Zc ?_;intro w5 aR hF;have h18:NumAt w5 (.agg #[.bool sb,.slice sA sl sc]) (du (l.take k)*x):=hF 18;have cJ:=zh (HB.o.trans (aR.mono HB.o.size));have pb:=zh (HR.o.below aR HR.o.lt);have xZ:=HNb.o.below aR HNb.o.lt;have q0:=xZ.cell 0;have q1:=xZ.cell 1;have f0:=xZ.frozen 0;have f1:=xZ.frozen 1;simp only[aG,aH,aD] at q0 q1;rw[←HP.o] at h18
  have H18:=zh h18;have PI:=zh (HN.o.grow aR);clear hF u0 u1 h18 aR xZ HP HN HR HB HNb WB;go_wp2_with fail;have Pe:=zh (PI.o.put H18.o);have vp:=zh ((pb.o.far (p:=⟨D5,0,none⟩) (Nat.ne_of_lt PE.o) (.bool sb)).far (p:=⟨D5,1,none⟩) (Nat.ne_of_lt PE.o) (.slice sA sl sc));have kH:=zh ((cJ.o.setCell (p:=⟨D5,0,none⟩) (YG PE.o) (.bool sb)).setCell (p:=⟨D5,1,none⟩) (YG PE.o) (.slice sA sl sc));clear q0 q1 f0 f1 H18 PI pb cJ
  go_roundw
  case rel=>exact⟨k+1,by omega,by go_num,Pe,vp,kH⟩
  simp[intOf];omega
 obtain rfl:k=l.length:=by omega
 rw[yT] at WB HPk;go_wp2_with fail;have u0:=YL q0;have u1:=YL q1;clear q0 q1;refine af 4 (fun i=>if i=2 then some (gN by_) else if i=3 then some (gE (Zu by_ l)) else none) (by kernel_rfl) (by kernel_rfl) ?_;simp only[aM,aP,aN,aO];refine zw 2 ?_;simp only[aM,aP,aN,aO]
 repeat (go_big_quiet_step (fail))
 refine YE ?_;refine ae rfl rfl (fun w1 ak _=>⟨155,#[.int .i64 by_],by go_simp,MakesN.g (G4 by_ w1 (by have:=cP.o;omega) (by have:=cP.o;omega))⟩) ?_;rintro _ ⟨rb,rA,rl,rc,rfl⟩;simp only[Act.put,aC,aB,aA];refine ae rfl rfl ?_ ?_
 ·intro w1 ak Oi;have h22:NumAt w1 (.agg #[.bool rb,.slice rA rl rc]) by_:=Oi 22 (by decide);exact zc (MakesE.g (sE _ _ _ _ 20 w1 (WB.o.grow ak) h22 Xt.o (by decide) (fa HPk.o (by omega)) (Bm cP.o)))
 rintro _ ⟨mK,mM,mC,mI,mJ,mL,mB,mH,rfl⟩;simp only[Act.put,aC,aB,aA];refine Zc ?_;intro w5 aR hF;have h23:ExactAt w5 (.agg (zD mK mM mC mI mJ mL mB mH)) (Zu by_ l):=hF 23;have HL:=zh h23;have ep:=zh (HB.o.trans (aR.mono HB.o.size));have bj:=zh (HR.o.below aR HR.o.lt);have q0:=bj.o.cell 0;have q1:=bj.o.cell 1;have q2:=bj.o.cell 2;have q3:=bj.o.cell 3;have f0:=bj.o.frozen 0;have f1:=bj.o.frozen 1;have f2:=bj.o.frozen 2
 have f3:=bj.o.frozen 3;simp only[aG,aH,aD] at q0 q1 q2 q3;clear hF u0 u1 h23 aR HN HR HB HNb WB;go_wp2_with fail;refine YF (v:=.agg (zD mK mM mC mI mJ mL mB mH)) (by simp[results,Tryz.results159,go_sem,q0,q1,q2,q3]) rfl ?_;exact⟨bA ep.o (yA _) _ _ _ _,_,rfl,HL.o.stored bj.o _ _ _ _⟩
def LoadT.cells (x:LoadT):List Value:=[.int .i64 x.pos,.int .i64 x.wt]
def LoadsAt (w:World) (B:Nat) (v:Value) (l:List LoadT):Prop:=Flat w B v l.length (l.flatMap LoadT.cells)
theorem LoadsAt.below {w w':World} {B B':Nat} {v:Value} {l:List LoadT} (h:LoadsAt w B v l) (hb:Below B' w w') (hB:B≤B'):LoadsAt w' B v l:=Flat.below h hb hB
theorem LoadsAt.mono {w:World} {B B':Nat} {v:Value} {l:List LoadT} (h:LoadsAt w B v l) (hB:B≤B'):LoadsAt w B' v l:=Flat.mono h hB
theorem Ua (l:List LoadT) (j i:Nat) (hj:j<l.length) (hi:i<2):(l.flatMap LoadT.cells)[j*2+i]?=l[j].cells[i]?:=by
 induction l generalizing j with
 | nil=>simp at hj
 | cons t l ih=>
  have h5:t.cells.length=2:=rfl;rw[List.flatMap_cons]
  cases j with
  | zero=>rw[List.getElem?_append_left (by rw[h5];omega)];simp
  | succ j=>
   rw[List.getElem?_append_right (by rw[h5];omega),h5]
   have:=ih j (by simpa using hj);rw[show (j+1)*2+i-2=j*2+i by omega,this];rfl
theorem LoadsAt.open_ {w:World} {B:Nat} {v:Value} {l:List LoadT} (h:LoadsAt w B v l) :
  ∃A c,v=.slice A l.length c∧l.length≤c∧c≤maxLen∧∀k (_:k<l.length),∃b off,A=some ⟨b,off,none⟩∧b<B∧∀j (hj:j<l.length),w.cell? ⟨b,off+j*2,none⟩=some (.int .i64 l[j].pos)∧w.cell? ⟨b,off+j*2+1,none⟩=some (.int .i64 l[j].wt):=by
 obtain⟨A,c,h1,h2,h3,h4⟩:=h;refine⟨A,c,h1,h2,h3,fun k hk=>?_⟩;obtain⟨b,off,e,ao,hc⟩:=h4 (by omega);refine⟨b,off,e,ao,fun j hj=>?_⟩;have f:=fun (i:Nat) (hi:i<2) u (hu:l[j].cells[i]?=some u)=>hc (j*2+i) u ((Ua l j i hj hi).trans hu);have g:=fun (i:Nat) (hi:i<2) u (hu:l[j].cells[i]?=some u)=>(congrArg (fun o=>w.cell? ⟨b,o,none⟩) (Nat.add_assoc off (j*2) i)).trans (f i hi u hu);exact⟨g 0 (by omega) _ rfl,g 1 (by omega) _ rfl⟩
def BeamAt (w:World) (B:Nat) (v:Value) (b:BeamT):Prop :=
 ∃As cs Al cl,v=.agg (zC b As cs Al cl)∧bg w B (.slice As b.sup.length cs) b.sup∧LoadsAt w B (.slice Al b.loads.length cl) b.loads
theorem BeamAt.below {w w':World} {B B':Nat} {v:Value} {b:BeamT} (h:BeamAt w B v b) (hb:Below B' w w') (hB:B≤B'):BeamAt w' B v b:=by
 obtain⟨As,cs,Al,cl,h1,h2,h3⟩:=h;exact⟨As,cs,Al,cl,h1,h2.below hb hB,h3.below hb hB⟩
theorem BeamAt.mono {w:World} {B B':Nat} {v:Value} {b:BeamT} (h:BeamAt w B v b) (hB:B≤B'):BeamAt w B' v b:=by
 obtain⟨As,cs,Al,cl,h1,h2,h3⟩:=h;exact⟨As,cs,Al,cl,h1,h2.mono hB,h3.mono hB⟩
theorem BeamAt.grow {w w':World} {v:Value} {b:BeamT} (h:BeamAt w w.heap.size v b) (hb:Below w.heap.size w w'):BeamAt w' w'.heap.size v b:=(h.below hb (yA _)).mono hb.size
theorem gb (w:World) (T:TypeId) (l:List Int) (hl:l.length≤100):bg (w.alloc (.cells (l.map (Value.int .i64)).toArray T)) (w.alloc (.cells (l.map (Value.int .i64)).toArray T)).heap.size (.slice (some ⟨w.heap.size,0,none⟩) l.length l.length) l:=by
 refine⟨some ⟨w.heap.size,0,none⟩,l.length,rfl,yA _,by unfold maxLen;omega,fun _=>⟨w.heap.size,0,rfl,by simp,fun j u hu=>?_⟩⟩;rw[yR,(Blk.new w T _).cell];simpa using hu
def gI (l:List Int):GPost:=⟨fun v=>∃g,v=.slice (some ⟨g,0,none⟩) l.length l.length,fun v w=>bg w w.heap.size v l,⟨_,0,rfl⟩,fun _ _ _ hb h=>(RowAt.below h hb (yA _)).mono hb.size,false⟩
theorem fG {P:Program} {o:Oper} {a:Act} {w:World} {T:TypeId} {l:List Int} (hl:l.length≤100) (h:(execOp a.eval o).run P w=.ok (.value (.slice (some ⟨w.heap.size,0,none⟩) l.length l.length)) (w.alloc (.cells (l.map (Value.int .i64)).toArray T))):kX P o a (gI l) w :=
 ⟨_,_,h,(yB _ _).alloc (yA _) _,⟨_,rfl⟩,gb w T l hl,fun h=>by cases h⟩
def ExBox (w:World) (D:Nat) (q:Rat):Prop:=∃b1 A1 l1 c1 b2 A2 l2 c2,Blk w D 154 #[.bool b1,.slice A1 l1 c1,.bool b2,.slice A2 l2 c2]∧ExactAt w (.agg #[.bool b1,.slice A1 l1 c1,.bool b2,.slice A2 l2 c2]) q
theorem ExBox.grow {w w':World} {D:Nat} {q:Rat} (h:ExBox w D q) (hb:Below w.heap.size w w'):ExBox w' D q:=by
 obtain⟨b1,A1,l1,c1,b2,A2,l2,c2,h1,h2⟩:=h;exact⟨b1,A1,l1,c1,b2,A2,l2,c2,h1.below hb h1.lt,h2.grow hb⟩
theorem ExBox.new {w:World} {q:Rat} {b1:Bool} {A1:Option Addr} {l1 c1:Nat} {b2:Bool} {A2:Option Addr} {l2 c2:Nat} (h:ExactAt w (.agg (zD b1 A1 l1 c1 b2 A2 l2 c2)) q):ExBox (w.alloc (.cells (zD b1 A1 l1 c1 b2 A2 l2 c2) 154)) w.heap.size q :=
 ⟨b1,A1,l1,c1,b2,A2,l2,c2,Blk.new _ _ _,h.grow ((yB _ _).alloc (yA _) _)⟩
theorem ExBox.put {w:World} {D:Nat} {q:Rat} {cs:Array Value} (h0:Blk w D 154 cs) (h4:cs.size=4) {b1:Bool} {A1:Option Addr} {l1 c1:Nat} {b2:Bool} {A2:Option Addr} {l2 c2:Nat} (h:ExactAt w (.agg (zD b1 A1 l1 c1 b2 A2 l2 c2)) q) :
  ExBox ((((w.setCell ⟨D,0,none⟩ (.bool b1)).setCell ⟨D,1,none⟩ (.slice A1 l1 c1)).setCell ⟨D,2,none⟩ (.bool b2)).setCell ⟨D,3,none⟩ (.slice A2 l2 c2)) D q:=by
 refine⟨b1,A1,l1,c1,b2,A2,l2,c2,?_,h.stored h0 _ _ _ _⟩;have h5:=(((h0.set_ 0 (.bool b1)).set_ 1 (.slice A1 l1 c1)).set_ 2 (.bool b2)).set_ 3 (.slice A2 l2 c2)
 match cs,h4,h5 with
 | ⟨[x0,x1,x2,x3]⟩,_,h5=>exact h5
theorem Blk.far4 {w:World} {g D:Nat} {t:TypeId} {cs:Array Value} (h:Blk w g t cs) (hg:g≠D) (x0 x1 x2 x3:Value):Blk ((((w.setCell ⟨D,0,none⟩ x0).setCell ⟨D,1,none⟩ x1).setCell ⟨D,2,none⟩ x2).setCell ⟨D,3,none⟩ x3) g t cs :=
 (((h.far (p:=⟨D,0,none⟩) hg x0).far (p:=⟨D,1,none⟩) hg x1).far (p:=⟨D,2,none⟩) hg x2).far (p:=⟨D,3,none⟩) hg x3
structure SumSt (w wr:World) (bx:Array Value) (Ds:Nat) (q:Rat):Prop where
 bm:Blk wr w.heap.size 43 bx
 res:Blk wr (w.heap.size+1) 154 (zD false none 0 0 false none 0 0)
 sum:ExBox wr Ds q
 bel:Below w.heap.size w wr
 far:w.heap.size+1<Ds
theorem SumSt.grow {w wr w':World} {bx:Array Value} {Ds:Nat} {q:Rat} (h:SumSt w wr bx Ds q) (hb:Below wr.heap.size wr w'):SumSt w w' bx Ds q :=
 ⟨h.bm.below hb h.bm.lt,h.res.below hb h.res.lt,h.sum.grow hb,h.bel.trans (hb.mono h.bel.size),h.far⟩
theorem SumSt.alloc {w wr:World} {bx:Array Value} {Ds:Nat} {q:Rat} (h:SumSt w wr bx Ds q) (o:Obj):SumSt w (wr.alloc o) bx Ds q:=h.grow ((yB _ _).alloc (yA _) _)
theorem SumSt.put {w wr:World} {bx:Array Value} {Ds:Nat} {q q':Rat} (h:SumSt w wr bx Ds q) {b1:Bool} {A1:Option Addr} {l1 c1:Nat} {b2:Bool} {A2:Option Addr} {l2 c2:Nat} (hE:ExactAt wr (.agg (zD b1 A1 l1 c1 b2 A2 l2 c2)) q') :
  SumSt w ((((wr.setCell ⟨Ds,0,none⟩ (.bool b1)).setCell ⟨Ds,1,none⟩ (.slice A1 l1 c1)).setCell ⟨Ds,2,none⟩ (.bool b2)).setCell ⟨Ds,3,none⟩ (.slice A2 l2 c2)) bx Ds q':=by
 have hf:=h.far;obtain⟨_,_,_,_,_,_,_,_,h1,-⟩:=h.sum;exact⟨h.bm.far4 (by omega) _ _ _ _,h.res.far4 (by omega) _ _ _ _,ExBox.put h1 rfl hE,bA h.bel (by omega) _ _ _ _,h.far⟩
theorem SumSt.start {w w1:World} {bx:Array Value} {q:Rat} (hb:Below (w.heap.size + 2) ((w.alloc (.cells bx 43)).alloc (.cells (zD false none 0 0 false none 0 0) 154)) w1)
  {b1:Bool} {A1:Option Addr} {l1 c1:Nat} {b2:Bool} {A2:Option Addr} {l2 c2:Nat} (hE:ExactAt w1 (.agg (zD b1 A1 l1 c1 b2 A2 l2 c2)) q) :
  SumSt w (w1.alloc (.cells (zD b1 A1 l1 c1 b2 A2 l2 c2) 154)) bx w1.heap.size q:=by
 have h1:Blk ((w.alloc (.cells bx 43)).alloc (.cells (zD false none 0 0 false none 0 0) 154)) (w.heap.size+1) 154 (zD false none 0 0 false none 0 0):=by
  have:=Blk.new (w.alloc (.cells bx 43)) 154 (zD false none 0 0 false none 0 0);simpa using this
 have h2:=(Blk.new w 43 bx).alloc (.cells (zD false none 0 0 false none 0 0) 154);have h3:Below w.heap.size w ((w.alloc (.cells bx 43)).alloc (.cells (zD false none 0 0 false none 0 0) 154)):=((yB _ _).alloc (yA _) _).alloc (by simp) _;have h4:Below w.heap.size w w1:=h3.trans (hb.mono (by omega));have de:w.heap.size+2≤w1.heap.size:=by have:=hb.size;simpa using this
 exact⟨(h2.below hb (by omega)).alloc _,(h1.below hb (by omega)).alloc _,ExBox.new hE,h4.alloc h4.size _,by omega⟩
structure E4 where
 b1:Bool
 A1:Option Addr
 l1:Nat
 c1:Nat
 b2:Bool
 A2:Option Addr
 l2:Nat
 c2:Nat
def E4.cells (e:E4):List Value:=[.bool e.b1,.slice e.A1 e.l1 e.c1,.bool e.b2,.slice e.A2 e.l2 e.c2]
abbrev E4.val (e:E4):Value:=.agg #[.bool e.b1,.slice e.A1 e.l1 e.c1,.bool e.b2,.slice e.A2 e.l2 e.c2]
theorem qjv (es:List E4):(es.flatMap E4.cells).length=es.length*4:=by
 induction es with
 | nil=>rfl
 | cons e es ih=>
  rw[List.flatMap_cons,yQ,ih,List.length_cons];show 4+_=_;omega
theorem yo (es:List E4) (j i:Nat) (hj:j<es.length) (hi:i<4):(es.flatMap E4.cells)[j*4+i]?=es[j].cells[i]?:=by
 induction es generalizing j with
 | nil=>simp at hj
 | cons t l ih=>
  have h5:t.cells.length=4:=rfl;rw[List.flatMap_cons]
  cases j with
  | zero=>rw[List.getElem?_append_left (by rw[h5];omega)];simp
  | succ j=>
   rw[List.getElem?_append_right (by rw[h5];omega),h5]
   have:=ih j (by simpa using hj);rw[show (j+1)*4+i-4=j*4+i by omega,this];rfl
theorem V7 (es:List E4) (i:Nat) (e:E4) (hi:i<es.length):(es.set i e).flatMap E4.cells=((((es.flatMap E4.cells).set (i*4) (.bool e.b1)).set (i*4+1) (.slice e.A1 e.l1 e.c1)).set (i*4+2) (.bool e.b2)).set (i*4+3) (.slice e.A2 e.l2 e.c2):=by
 induction es generalizing i with
 | nil=>simp at hi
 | cons t l ih=>
  cases i with
  | zero=>rfl
  | succ i=>
   rw[List.set_cons_succ,List.flatMap_cons,List.flatMap_cons,ih i (by simpa using hi)];have h5:t.cells.length=4:=rfl;have k:=fun (L:List Value) (m:Nat) (x:Value)=>List.set_append_right (s:=t.cells) (t:=L) (i:=m+4) (x:=x) (by rw[h5];omega);rw[show (i+1)*4=i*4+4 by omega,k,show i*4+4+1=i*4+1+4 by omega,k,show i*4+4+2=i*4+2+4 by omega,k,show i*4+4+3=i*4+3+4 by omega,k];rw[h5,Nat.add_sub_cancel,Nat.add_sub_cancel,Nat.add_sub_cancel,Nat.add_sub_cancel]
def ExRow (w:World) (g n:Nat) (f:Nat→Option Rat):Prop:=∃es:List E4,es.length=n∧Blk w g 154 (es.flatMap E4.cells).toArray∧∀j (hj:j<es.length) q,f j=some q→ExactAt w es[j].val q
section
variable {w w':World} {g n:Nat} {f:Nat→Option Rat}
theorem ExRow.blk (h:ExRow w g n f):∃cs,Blk w g 154 cs:=by
 obtain⟨es,_,h2,_⟩:=h;exact⟨_,h2⟩
theorem ExRow.lt (h:ExRow w g n f):g<w.heap.size:=by
 obtain⟨cs,h⟩:=h.blk;exact h.lt
theorem ExRow.frozen (h:ExRow w g n f) (i:Nat):w.frozen? ⟨g,i,none⟩=false:=by
 obtain⟨cs,h⟩:=h.blk;exact h.frozen i
theorem ExRow.grow (h:ExRow w g n f) (hb:Below w.heap.size w w'):ExRow w' g n f:=by
 obtain⟨es,h1,h2,h3⟩:=h;exact⟨es,h1,h2.below hb h2.lt,fun j hj q hq=>(h3 j hj q hq).grow hb⟩
theorem ExRow.read (h:ExRow w g n f) {i:Nat} (hi:i<n):∃b1 A1 l1 c1 b2 A2 l2 c2,w.cell? ⟨g,i*4,none⟩=some (.bool b1)∧w.cell? ⟨g,i*4+1,none⟩=some (.slice A1 l1 c1)∧w.cell? ⟨g,i*4+2,none⟩=some (.bool b2)∧w.cell? ⟨g,i*4+3,none⟩=some (.slice A2 l2 c2) ∧
  ∀q,f i=some q→ExactAt w (.agg (zD b1 A1 l1 c1 b2 A2 l2 c2)) q:=by
 obtain⟨es,rfl,h2,h3⟩:=h;have k:=fun (m:Nat) (hm:m<4)=>(h2.cell (i*4+m)).trans ((List.getElem?_toArray ..).trans (yo es i m hi hm));exact⟨_,_,_,_,_,_,_,_,k 0 (by decide),k 1 (by decide),k 2 (by decide),k 3 (by decide),fun q hq=>h3 i hi q hq⟩
theorem ExactAt.set4 {v:Value} {q:Rat} {cs:Array Value} (h:ExactAt w v q) (hD:Blk w g 154 cs) (o:Nat) (x0 x1 x2 x3:Value):ExactAt ((((w.setCell ⟨g,o,none⟩ x0).setCell ⟨g,o+1,none⟩ x1).setCell ⟨g,o+2,none⟩ x2).setCell ⟨g,o+3,none⟩ x3) v q :=
 (((h.setBox hD (by decide) o x0).setBox (hD.set_ o x0) (by decide) (o+1) x1).setBox ((hD.set_ o x0).set_ (o+1) x1) (by decide) (o+2) x2).setBox (((hD.set_ o x0).set_ (o+1) x1).set_ (o+2) x2) (by decide) (o+3) x3
theorem Blk.far4o {t:TypeId} {cs:Array Value} {D:Nat} (h:Blk w g t cs) (hg:g≠D) (o:Nat) (x0 x1 x2 x3:Value):Blk ((((w.setCell ⟨D,o,none⟩ x0).setCell ⟨D,o+1,none⟩ x1).setCell ⟨D,o+2,none⟩ x2).setCell ⟨D,o+3,none⟩ x3) g t cs :=
 (((h.far (p:=⟨D,o,none⟩) hg x0).far (p:=⟨D,o+1,none⟩) hg x1).far (p:=⟨D,o+2,none⟩) hg x2).far (p:=⟨D,o+3,none⟩) hg x3
theorem dH {B:Nat} {w0:World} (h:Below B w0 w) (hD:B≤g) (o:Nat) (x0 x1 x2 x3:Value):Below B w0 ((((w.setCell ⟨g,o,none⟩ x0).setCell ⟨g,o+1,none⟩ x1).setCell ⟨g,o+2,none⟩ x2).setCell ⟨g,o+3,none⟩ x3) :=
 (((h.setCell (p:=⟨g,o,none⟩) hD x0).setCell (p:=⟨g,o+1,none⟩) hD x1).setCell (p:=⟨g,o+2,none⟩) hD x2).setCell (p:=⟨g,o+3,none⟩) hD x3
def eh (f:Nat→Option Rat) (i:Nat) (q:Rat):Nat→Option Rat:=fun j=>if j=i then some q else f j
theorem ExRow.write (h:ExRow w g n f) {i:Nat} (hi:i<n) {b1:Bool} {A1:Option Addr} {l1 c1:Nat} {b2:Bool} {A2:Option Addr} {l2 c2:Nat} {q:Rat} (hE:ExactAt w (.agg (zD b1 A1 l1 c1 b2 A2 l2 c2)) q) :
  ExRow ((((w.setCell ⟨g,i*4,none⟩ (.bool b1)).setCell ⟨g,i*4+1,none⟩ (.slice A1 l1 c1)).setCell ⟨g,i*4+2,none⟩ (.bool b2)).setCell ⟨g,i*4+3,none⟩ (.slice A2 l2 c2)) g n (eh f i q):=by
 obtain⟨es,rfl,h2,h3⟩:=h;refine⟨es.set i ⟨b1,A1,l1,c1,b2,A2,l2,c2⟩,by simp,?_,fun j hj q' hq=>?_⟩
 ·have:=(((h2.set_ (i*4) (.bool b1)).set_ (i*4+1) (.slice A1 l1 c1)).set_ (i*4+2) (.bool b2)).set_ (i*4+3) (.slice A2 l2 c2);rw[V7 es i _ hi];simpa using this
 have hj':j<es.length:=by simpa using hj
 unfold eh at hq;by_cases e:j=i
 ·subst e;rw[if_pos rfl] at hq;injection hq with hq;subst hq;simp only[List.getElem_set_self];exact hE.set4 h2 _ _ _ _ _
 rw[if_neg e] at hq;rw[List.getElem_set_ne (fun e'=>e e'.symm)];exact (h3 j hj' q' hq).set4 h2 _ _ _ _ _
theorem ExRow.far (h:ExRow w g n f) {D:Nat} {cs:Array Value} (hD:Blk w D 154 cs) (dL:g≠D) (o:Nat) (x0 x1 x2 x3:Value):ExRow ((((w.setCell ⟨D,o,none⟩ x0).setCell ⟨D,o+1,none⟩ x1).setCell ⟨D,o+2,none⟩ x2).setCell ⟨D,o+3,none⟩ x3) g n f:=by
 obtain⟨es,h1,h2,h3⟩:=h;exact⟨es,h1,h2.far4o dL _ _ _ _ _,fun j hj q hq=>(h3 j hj q hq).set4 hD _ _ _ _ _⟩
theorem ExBox.far {D:Nat} {q:Rat} (h:ExBox w D q) {cs:Array Value} (hg:Blk w g 154 cs) (dL:D≠g) (o:Nat) (x0 x1 x2 x3:Value):ExBox ((((w.setCell ⟨g,o,none⟩ x0).setCell ⟨g,o+1,none⟩ x1).setCell ⟨g,o+2,none⟩ x2).setCell ⟨g,o+3,none⟩ x3) D q:=by
 obtain⟨b1,A1,l1,c1,b2,A2,l2,c2,h1,h2⟩:=h;exact⟨b1,A1,l1,c1,b2,A2,l2,c2,h1.far4o dL _ _ _ _ _,h2.set4 hg _ _ _ _ _⟩
theorem ExRow.weak (h:ExRow w g n f) {f':Nat→Option Rat} (hf:∀j q,j<n→f' j=some q→f j=some q):ExRow w g n f':=by
 obtain⟨es,h1,h2,h3⟩:=h;exact⟨es,h1,h2,fun j hj q hq=>h3 j hj q (hf j q (by omega) hq)⟩
end
theorem qG:(Tryz.prog.info? 154).map (fun i=>(i.zero,i.size,i.bytes))=some (some (.agg (zD false none 0 0 false none 0 0)),4,64):=by kernel_rfl
theorem LQ (n:Nat):(madeCells (Value.cells (.agg (zD false none 0 0 false none 0 0))) (n*4)).toList=(List.replicate n (⟨false,none,0,0,false,none,0,0⟩:E4)).flatMap E4.cells:=by
 apply List.ext_getElem?;intro i;by_cases hi:i<n*4
 ·have e:i=(i/4)*4+i%4:=by omega
  have h4:i%4<4:=YJ _ (by decide)
  conv=>rhs;rw[e,yo _ _ _ (by simp;omega) h4]
  rw[Array.getElem?_toList,Array.getElem?_eq_getElem (by rw[size_madeCells];exact hi)];simp only[List.getElem_replicate];simp only[madeCells];have h:i%4=0∨i%4=1∨i%4=2∨i%4=3:=by omega
  rcases h with h|h|h|h <;> simp[E4.cells,Value.cells,h]
 rw[List.getElem?_eq_none (by rw[Array.length_toList,size_madeCells];omega),List.getElem?_eq_none (by rw[qjv];simp;omega)]
theorem ExRow.made {w:World} {n:Nat} {B g:Nat} (h:w.ownsRow B 154 4 (.slice (some ⟨g,0,none⟩) n n) n (madeCells (Value.cells (.agg (zD false none 0 0 false none 0 0))) (n*4)).toList):ExRow w g n (fun _=>none):=by
 rcases h.2 with⟨h',_⟩|⟨g2,cap,cur,h',_,h3,_,_,hs,ht⟩
 ·cases h'
 injection h' with h4 _ h5;injection h4 with h4;injection h4 with h4 _ _;subst h4 h5;rw[List.take_of_length_le (by rw[Array.length_toList,hs];exact yA _),LQ] at ht;refine⟨List.replicate n ⟨false,none,0,0,false,none,0,0⟩,by simp,?_,fun j hj q hq=>by cases hq⟩;unfold Blk;rw[h3,←ht]
attribute [local go_sem] Oper.semAt_some
def j9 {α:Type} (f:Nat→α) (k:Nat):List α:=(List.range k).map f
theorem Io {α:Type} (f:Nat→α) (k:Nat):j9 f (k+1)=j9 f k++[f k]:=by simp[j9,List.range_succ]
theorem Cb {α:Type} (f:Nat→α) (k:Nat):(j9 f k).length=k:=by simp[j9]
def nD (zs:List Int) (j:Nat):Int×Int:=(((zs.length:Int)-1-j),zs[zs.length-1-j]?.getD 0)
def zH (n₀ Bs:Nat) (W W':World):Prop:=Below n₀ W W'∧∀v,W.cell? ⟨Bs,0,none⟩=some v→W'.cell? ⟨Bs,0,none⟩=some v
theorem MJ {n₀ Bs:Nat} {A B C:World} (h:zH n₀ Bs A B) (k:zH n₀ Bs B C):zH n₀ Bs A C:=⟨h.1.trans k.1,fun v hv=>k.2 v (h.2 v hv)⟩
theorem Wc (F:Fence) (n:Nat) (h7:F.fn 194) (Xa:F.round=none) (hn:1 ≤ n) (l Bs n₀:Nat) (a:Option Addr) (cap:Nat) (zs:List Int) (Uv:zs.length ≤ 1000) (hI:∀k,k < zs.length→∃b off,a=some ⟨b,off,none⟩ ∧ b < n₀) (J Jx:List (Int×Int)→World→Prop)
  (hY:∀pre x W,J pre W→pre.length<zs.length→YieldAt F (n-1) Tryz.prog l #[.int .i64 x.1,.int .i64 x.2] W fun e W'=>
   (e=.returned (.bool true)∧J (pre++[x]) W'∧zH n₀ Bs W W')∨(e=.returned (.bool false)∧Jx (pre++[x]) W'))
  (W:World) (YZ:W.cell? ⟨Bs,0,none⟩=some (.slice a zs.length cap)) (hc:∀b off,a=some ⟨b,off,none⟩→∀j,j<zs.length→W.cell? ⟨b,off+j,none⟩=some (.int .i64 (zs[j]?.getD 0))) (h0:J [] W) :
  CallsIn F n Tryz.prog 194 #[.func (.yield l) #[] #[],.pointer (some ⟨Bs,0,none⟩)] W fun e W'=>(∃v,e=.returned v) ∧
   ((∃ys,ys=j9 (nD zs) zs.length∧J ys W')∨(∃pre,(∃k,k≤zs.length∧pre=j9 (nD zs) k)∧Jx pre W')):=by
 have HI:=zh hI;have HC:=zh hc;have HY:=zh hY;clear hI hc hY;refine callsIn_of_wp Tryz.func194 rfl h7 ?_ Xa;simp only[Tryz.ntmps194,List.size_toArray,List.length_cons,List.length_nil,Nat.reduceAdd,Nat.reduceSub,Array.replicate_succ,Array.replicate_zero,List.push_toArray,List.append_toArray,List.nil_append,List.cons_append];gi_wp2
 gi_loopw [3] (fun i wr=>∃k:Nat,k≤zs.length∧i=.int .i64 ((zs.length:Int)-1-k)∧J (j9 (nD zs) k) wr∧Y0 (zH n₀ Bs W wr)) (fun i _=>(intOf i+1).toNat)
 case atStart=>exact⟨0,yI _,by go_num,h0,⟨yB _ _,fun _ h=>h⟩⟩
 obtain⟨k,hk,rfl,hJs,hnx⟩:=hrel;have eH:=hnx.o.2 _ YZ;by_cases ao:k<zs.length
 ·obtain⟨m,hm⟩:∃m,m=zs.length-1-k:=⟨_,rfl⟩;have e1:((zs.length:Int)-1-k)=(m:Int):=by omega
  rw[e1];have GY:m<zs.length:=by omega
  obtain⟨b,off,rfl,hb⟩:=HI.o m GY;have hx:=(hnx.o.1.cell (p:=⟨b,off+m,none⟩) hb).trans (HC.o b off rfl m GY);obtain⟨fn,tmps,assign,body,hy,hR⟩:=HY.o _ (nD zs k) wr hJs (by rw[Cb];exact ao);have e2:nD zs k=((m:Int),zs[m]?.getD 0):=by unfold nD;rw[e1,hm]
  rw[e2] at hy hR;dsimp only at hy
  have HP:Y0 (j9 (nD zs) (k+1)=j9 (nD zs) k++[((m:Int),zs[m]?.getD 0)]):=by unfold Y0;rw[Io,e2]
  generalize zs[m]?.getD 0=x at*;have m0:(0:Int)≤(m:Int):=yE _;have m1:(m:Int)<(zs.length:Int):=by omega
  have HM:=zh hm;have HE:=zh e1;clear e1 e2 hm;gi_wp2
  refine hR.mono ?_;rintro e W3 (⟨rfl,hJ3,hk3⟩|⟨rfl,vzN⟩)
  ·have vzo:Y0 (zH n₀ Bs W W3):=MJ hnx.o hk3;clear hk3 hx eH;gi_wp2
   go_roundw
   case rel=>exact⟨k+1,by omega,by have:=HM.o;congr 1;omega,by rw[HP.o];exact hJ3,vzo⟩
   simp[intOf]
  gi_wp2
  refine YF (results_none rfl _ _ _) rfl ?_;exact⟨⟨_,rfl⟩,.inr ⟨_,⟨k+1,by omega,HP.o.symm⟩,vzN⟩⟩
 obtain rfl:k=zs.length:=by omega
 have e1:((zs.length:Int)-1-(zs.length:Int))=-1:=by omega
 rw[e1];clear e1;gi_wp2
 go_end0;exact⟨⟨_,rfl⟩,.inl ⟨_,rfl,hJs⟩⟩
theorem KS (F:Fence) (n:Nat) (h7:F.fn 194) (Xa:F.round=none) (hn:1 ≤ n) (Bs n₀:Nat) (a:Option Addr) (cap:Nat) (zs:List Int) (Uv:zs.length ≤ 1000) (w:World) (YZ:Bs < w.heap.size) (hn₀:n₀ ≤ w.heap.size)
  (hc:w.cell? ⟨Bs,0,none⟩=some (.slice a zs.length cap)) (hI:bg w n₀ (.slice a zs.length cap) zs) :
  SeqStopsK F n Tryz.prog 194 #[.pointer (some ⟨Bs,0,none⟩)] (fun x:Int×Int=>#[Value.int .i64 x.1,Value.int .i64 x.2]) (zH n₀ Bs) (fun ys=>ys=j9 (nD zs) zs.length) (fun pre=>∃k,k≤zs.length∧pre=j9 (nD zs) k) zs.length w:=fun l J Jx W hW _ _ hY h0=>by
 have hc':=(hW.cell (p:=⟨Bs,0,none⟩) YZ).trans hc;obtain⟨_,_,e,_,_,aj⟩:=hI.open_;injection e with e1 _ e2;subst e1 e2;refine Wc F n h7 Xa hn l Bs n₀ _ _ zs Uv (fun k hk=>?_) J Jx hY W hc' (fun b off e j hj=>?_) h0
 ·obtain⟨b,off,e,hb,-⟩:=aj k hk;exact⟨b,off,e,hb⟩
 obtain⟨b',TH,e',hb,hx⟩:=aj j hj;rw[e] at e';injection e' with e';injection e' with e1 e2 _;subst e1 e2;have h:=(hW.cell (p:=⟨b,off+j,none⟩) (yK hb hn₀)).trans (hx j hj);rw[h,yM hj];rfl
theorem ZN (F:Fence) (n:Nat) (h5:F.fn 161) (Xa:F.round=none) (a:Option Addr) (len cap:Nat) (w:World) :
  CallsIn F n Tryz.prog 161 #[.slice a len cap] w fun e w'=>e=.returned (.func (.func 194) #[] #[.pointer (some ⟨w.heap.size,0,none⟩)])∧w'=w.alloc (.cells #[.slice a len cap] 22):=by
 refine callsIn_of_wp Tryz.func161 rfl h5 ?_ Xa;simp only[Tryz.ntmps161,List.size_toArray,List.length_cons,List.length_nil,Nat.reduceAdd,Nat.reduceSub,Array.replicate_succ,Array.replicate_zero,List.push_toArray,List.append_toArray,List.nil_append,List.cons_append];gi_wp2
 go_ret;exact⟨rfl,rfl⟩
attribute [local go_sem] Oper.semAt_some
def TurnedPost (b:BeamT) (w:World) (e:Ending) (w':World):Prop:=Below w.heap.size w w'∧∃v,e=.returned v∧BeamAt w' w'.heap.size v (al b)
theorem tx:(Tryz.prog.info? 3).map (fun i=>(i.zero,i.size,i.bytes))=some (some (.int .i64 0),1,8):=by kernel_rfl
theorem mT:(Tryz.prog.info? 40).map (fun i=>(i.zero,i.size,i.bytes))=some (some (.agg #[.int .i64 0,.int .i64 0]),2,16):=by kernel_rfl
structure TnB (w W:World) (b:BeamT) (As:Option Addr) (cs:Nat) (Al:Option Addr) (cl:Nat) (v2 v3:Value) (xs:List Int) (ys:List LoadT):Prop where
 d0:Blk W w.heap.size 43 (zC b As cs Al cl)
 d1:Blk W (w.heap.size+1) 43 #[.string ⟨#[]⟩,.int .i64 0,.slice none 0 0,.slice none 0 0,.int .i64 0]
 d2:Blk W (w.heap.size+1+1) 43 #[.string b.name,.int .i64 b.len,v2,v3,.int .i64 b.even]
 d3:Blk W (w.heap.size+1+1+1) 22 #[.slice As b.sup.length cs]
 o2:W.ownsRow w.heap.size 3 1 v2 xs.length (xs.map (Value.int .i64))
 o3:W.ownsRow w.heap.size 40 2 v3 ys.length (ys.flatMap LoadT.cells)
section
variable {w W W':World} {b:BeamT} {As:Option Addr} {cs:Nat} {Al:Option Addr} {cl:Nat} {v2 v3:Value} {xs:List Int} {ys:List LoadT}
theorem Zj {w:World} {B e s n:Nat} {v:Value} {L:List Value} (h:w.ownsRow B e s v n L) {row:Option Nat} (hr:∀r,row=some r→∀cs f,w.heap[r]? ≠ some (.cells cs e f)):v.ownBlock=none∨v.ownBlock≠row:=by
 rcases h.2 with⟨rfl,_⟩|⟨g,cap,cur,rfl,_,hg,_⟩
 ·exact .inl rfl
 refine .inr fun e'=>?_;exact hr g (by rw[←e'];rfl) _ _ hg
theorem TnB.kept (h:TnB w W b As cs Al cl v2 v3 xs ys) {row:Option Nat} (hg:W.grownBy W' row) (hr:∀r,row=some r→∀cs t f,W.heap[r]?=some (.cells cs t f)→t≠43∧t≠22∧t≠3∧t≠40):TnB w W' b As cs Al cl v2 v3 xs ys:=by
 have k:=fun {g:Nat} {t:TypeId} {c:Array Value} (hb:Blk W g t c) (ht:t=43∨t=22)=>hb.kept hg (fun e=>by
  obtain⟨h1,h2,-,-⟩:=hr g e.symm _ _ _ hb;rcases ht with rfl|rfl
  ·exact h1 rfl
  exact h2 rfl)
 exact⟨k h.d0 (.inl rfl),k h.d1 (.inl rfl),k h.d2 (.inl rfl),k h.d3 (.inr rfl),h.o2.kept hg (Zj h.o2 fun r e c f hh=>(hr r e _ _ _ hh).2.2.1 rfl),h.o3.kept hg (Zj h.o3 fun r e c f hh=>(hr r e _ _ _ hh).2.2.2 rfl)⟩
theorem TnB.turn (h:TnB w W b As cs Al cl v2 v3 xs ys) {row:Option Nat} (hg:W.grownBy W' row) (hr:∀r,row=some r→∃o:Obj,W.heap[r]?=some o∧o.isCells=false):TnB w W' b As cs Al cl v2 v3 xs ys :=
 h.kept hg fun r e c t f hh=>by
  obtain⟨o,ho,hc⟩:=hr r e;rw[hh] at ho;cases ho;cases hc
theorem TnB.alloc (h:TnB w W b As cs Al cl v2 v3 xs ys) (o:Obj):TnB w (W.alloc o) b As cs Al cl v2 v3 xs ys:=h.kept (World.grownBy_alloc W o none) (fun r e=>by cases e)
theorem tj {w:World} {B e s n:Nat} {v:Value} {L:List Value} (h:w.ownsRow B e s v n L) {r:Nat} (hr:v.ownBlock=some r):∃cs,w.heap[r]?=some (.cells cs e (0,0)):=by
 rcases h.2 with⟨rfl,_⟩|⟨g,cap,cur,rfl,_,hg,_⟩
 ·cases hr
 obtain rfl:g=r:=by simpa[Value.ownBlock] using hr
 exact⟨cur,hg⟩
theorem TnB.step2 (h:TnB w W b As cs Al cl v2 v3 xs ys) {v':Value} {w1:World} {x:Int} (aK:w1.ownsRow w.heap.size 3 1 v' (xs.length+1) (xs.map (Value.int .i64)++[.int .i64 x])) (hg:W.grownBy w1 v2.ownBlock) :
  Blk w1 (w.heap.size+1+1) 43 #[.string b.name,.int .i64 b.len,v2,v3,.int .i64 b.even]∧TnB w (w1.setCell ⟨w.heap.size+1+1,2,none⟩ v') b As cs Al cl v' v3 (xs++[x]) ys:=by
 have hr:=fun r (e:v2.ownBlock=some r)=>tj h.o2 e;have k:=fun {g:Nat} {t:TypeId} {c:Array Value} (hb:Blk W g t c) (ht:t≠3)=>hb.kept hg (fun e=>by
  obtain⟨c',hc⟩:=hr g e.symm;unfold Blk at hb;rw[hb] at hc;injection hc with hc;injection hc with _ hc _;exact ht hc)
 have e0:=k h.d0 (by decide);have e1:=k h.d1 (by decide);have e2:=k h.d2 (by decide);have e3:=k h.d3 (by decide);have e4:w1.ownsRow w.heap.size 40 2 v3 ys.length (ys.flatMap LoadT.cells):=h.o3.kept hg (Zj h.o3 fun r e c f hh=>by
  obtain⟨c',hc⟩:=hr r e;rw[hh] at hc;injection hc with hc;injection hc with _ hc _;exact absurd hc (by decide))
 refine⟨e2,e0.far (by show w.heap.size≠w.heap.size+1+1;omega) _,e1.far (by show w.heap.size+1≠w.heap.size+1+1;omega) _,e2.set_ 2 v',e3.far (by show w.heap.size+1+1+1≠w.heap.size+1+1;omega) _,?_,?_⟩
 ·have:(w1.setCell ⟨w.heap.size+1+1,2,none⟩ v').ownsRow w.heap.size 3 1 v' (xs.length+1) (xs.map (Value.int .i64)++[.int .i64 x]):=aK.kept (e2.setGrown 2 v') (Zj aK fun r e c f hh=>by
   obtain rfl:w.heap.size+1+1=r:=by simpa using e
   unfold Blk at e2;rw[e2] at hh;injection hh with hh;injection hh with _ hh _;exact absurd hh (by decide))
  rw[yQ,yS];exact this
 exact e4.kept (e2.setGrown 2 v') (Zj e4 fun r e c f hh=>by
  obtain rfl:w.heap.size+1+1=r:=by simpa using e
  unfold Blk at e2;rw[e2] at hh;injection hh with hh;injection hh with _ hh _;exact absurd hh (by decide))
theorem TnB.step3 (h:TnB w W b As cs Al cl v2 v3 xs ys) {v':Value} {w1:World} {y:LoadT} (aK:w1.ownsRow w.heap.size 40 2 v' (ys.length+1) (ys.flatMap LoadT.cells++[.int .i64 y.pos,.int .i64 y.wt])) (hg:W.grownBy w1 v3.ownBlock) :
  Blk w1 (w.heap.size+1+1) 43 #[.string b.name,.int .i64 b.len,v2,v3,.int .i64 b.even]∧TnB w (w1.setCell ⟨w.heap.size+1+1,3,none⟩ v') b As cs Al cl v2 v' xs (ys++[y]):=by
 have hr:=fun r (e:v3.ownBlock=some r)=>tj h.o3 e;have k:=fun {g:Nat} {t:TypeId} {c:Array Value} (hb:Blk W g t c) (ht:t≠40)=>hb.kept hg (fun e=>by
  obtain⟨c',hc⟩:=hr g e.symm;unfold Blk at hb;rw[hb] at hc;injection hc with hc;injection hc with _ hc _;exact ht hc)
 have e0:=k h.d0 (by decide);have e1:=k h.d1 (by decide);have e2:=k h.d2 (by decide);have e3:=k h.d3 (by decide);have e4:w1.ownsRow w.heap.size 3 1 v2 xs.length (xs.map (Value.int .i64)):=h.o2.kept hg (Zj h.o2 fun r e c f hh=>by
  obtain⟨c',hc⟩:=hr r e;rw[hh] at hc;injection hc with hc;injection hc with _ hc _;exact absurd hc (by decide))
 refine⟨e2,e0.far (by show w.heap.size≠w.heap.size+1+1;omega) _,e1.far (by show w.heap.size+1≠w.heap.size+1+1;omega) _,e2.set_ 3 v',e3.far (by show w.heap.size+1+1+1≠w.heap.size+1+1;omega) _,?_,?_⟩
 ·exact e4.kept (e2.setGrown 3 v') (Zj e4 fun r e c f hh=>by
   obtain rfl:w.heap.size+1+1=r:=by simpa using e
   unfold Blk at e2;rw[e2] at hh;injection hh with hh;injection hh with _ hh _;exact absurd hh (by decide))
 have:(w1.setCell ⟨w.heap.size+1+1,3,none⟩ v').ownsRow w.heap.size 40 2 v' (ys.length+1) (ys.flatMap LoadT.cells++[.int .i64 y.pos,.int .i64 y.wt]):=aK.kept (e2.setGrown 3 v') (Zj aK fun r e c f hh=>by
  obtain rfl:w.heap.size+1+1=r:=by simpa using e
  unfold Blk at e2;rw[e2] at hh;injection hh with hh;injection hh with _ hh _;exact absurd hh (by decide))
 rw[yQ,List.flatMap_append];exact this
end
attribute [local go_sem] Oper.semAt_some
theorem Fu {w:World} {B e s n:Nat} {v:Value} {L:List Value} (h:w.ownsRow B e s v n L):∃A c,v=.slice A n c:=by
 rcases h.2 with⟨rfl,rfl⟩|⟨g,cap,cur,rfl,_⟩
 ·exact⟨none,0,rfl⟩
 exact⟨_,cap,rfl⟩
theorem kh (w:World) (g i:Nat) (u:Value):w.grownBy (w.setCell ⟨g,i,none⟩ u) (some g):=⟨rfl,rfl,rfl,by simp[World.setCell],fun k _ hk=>Below.heap_setCell w _ u k (fun e=>hk (by rw[e]))⟩
theorem I0 (w:World) (g:Nat) (u0 u1 u2 u3 u4:Value):w.grownBy (((((w.setCell ⟨g,0,none⟩ u0).setCell ⟨g,1,none⟩ u1).setCell ⟨g,2,none⟩ u2).setCell ⟨g,3,none⟩ u3).setCell ⟨g,4,none⟩ u4) (some g) :=
 dy (dy (dy (dy (kh w g 0 u0) (kh _ g 1 u1)) (kh _ g 2 u2)) (kh _ g 3 u3)) (kh _ g 4 u4)
theorem G2 (F:Fence) (n:Nat) (h3:F.fn 116) (h5:F.fn 161) (h7:F.fn 194) (Xa:F.round=none) (hn:3≤n) (v:Value) (b:BeamT) (w:World) (hv:BeamAt w w.heap.size v b) (hb:BeamOk b) :
    CallsIn F n Tryz.prog 116 #[v] w (TurnedPost b w):=by
  have h1:1≤n:=by omega
  obtain⟨As,cs,Al,cl,rfl,hS,hL⟩:=hv;have HS:=zh hS;have HL:=zh hL;have Hb:=zh hb;clear hS hL hb;obtain⟨i0,hi,hH,jb,km⟩:=info_parts tx;refine callsIn_of_wp_marks Tryz.func116 rfl h3 ?_ Xa;simp only[Tryz.ntmps116,List.size_toArray,List.length_cons,List.length_nil,Nat.reduceAdd,Nat.reduceSub,Array.replicate_succ,Array.replicate_zero,List.push_toArray,List.append_toArray,List.nil_append,List.cons_append]
  gi_wp2_with (gi_at_call 161; refine (ZN F (n-1) h5 Xa _ _ _ _).mono ?_; rintro e w' ⟨rfl,rfl⟩)
  have hBx:=bV w 43 43 43 (zC b As cs Al cl) #[.string ⟨#[]⟩,.int .i64 0,.slice none 0 0,.slice none 0 0,.int .i64 0] #[.string b.name,.int .i64 b.len,.slice none 0 0,.slice none 0 0,.int .i64 b.even];obtain⟨W3,Kv⟩:=zo (((w.alloc (.cells (zC b As cs Al cl) 43)).alloc (.cells #[.string ⟨#[]⟩,.int .i64 0,.slice none 0 0,.slice none 0 0,.int .i64 0] 43)).alloc (.cells #[.string b.name,.int .i64 b.len,.slice none 0 0,.slice none 0 0,.int .i64 b.even] 43))
  have de:W3.heap.size=w.heap.size+1+1+1:=by rw[←Kv]; simp
  rw[Kv] at hBx;simp only[Kv];clear Kv;obtain⟨B1,B2,B3,bp⟩:=hBx;have hT0:TnB w (W3.alloc (.cells #[.slice As b.sup.length cs] 22)) b As cs Al cl (.slice none 0 0) (.slice none 0 0) [] []:=by
    have h4:=Blk.new W3 22 #[.slice As b.sup.length cs];rw[de] at h4;exact⟨B1.alloc _,B2.alloc _,B3.alloc _,h4,yJ _ _ _ _,yJ _ _ _ _⟩
  have hB0:Below w.heap.size w (W3.alloc (.cells #[.slice As b.sup.length cs] 22)):=bp.alloc bp.size _;have WZ:b.sup.length≤1000:=yH Hb.o.sup1.2 (by decide);have Kw:=KS F (n-1) h7 Xa (by omega) (w.heap.size+1+1+1) w.heap.size As cs b.sup WZ (W3.alloc (.cells #[.slice As b.sup.length cs] 22)) (by simp[de]) hB0.size (by rw[hT0.d3.cell 0]; rfl) (HS.o.below hB0 (yA _));clear B1 B2 B3 bp;have vvM:(W3.alloc (.cells #[.slice As b.sup.length cs] 22)).heap.size=w.heap.size+1+1+1+1:=by simp[de]
  generalize W3.alloc (.cells #[.slice As b.sup.length cs] 22)=W4 at*;clear de;refine wpIn_rangeFunc_ownG Xa h1 (gf := 194) (lb := #[.pointer (some ⟨w.heap.size + 1 + 1 + 1,0,none⟩)]) rfl h7 (enters_of Tryz.func194 (by kernel_rfl) rfl)
    Kw MJ (fun W l o o' hl ho hc hw=>⟨belowK_b (w:=W4) (by omega) W l o o' hl ho hc hw,fun v hv=>cell_kept hv (grownBy_putObj' W l o') (fun r e=>by cases e; exact⟨o,ho,hc⟩)⟩) (yB _ _) (fun _=>rfl)
    (fun pre W=>(∃v2,TnB w W b As cs Al cl v2 (.slice none 0 0) (pre.map fun p=>wrap64 (b.len-p.2)) [])∧Below w.heap.size w W)
    (fun _ _ _=>False)
    (OwnFrom.and (Own.from (fun s A B row hs hg hr=>by obtain⟨v2,h⟩:=hs; exact⟨v2,h.turn hg hr⟩) _) (ownFrom_below (yA _) (by omega)))
    (fun _ _ _ _ _ hs _ _=>hs)
    ⟨⟨_,hT0⟩,hB0⟩
    (fun x=>{ tmps:=#[.agg (zC b As cs Al cl),.pointer (some ⟨w.heap.size,0,none⟩),.pointer (some ⟨w.heap.size+1,0,none⟩),.pointer (some ⟨w.heap.size+1+1,0,none⟩),undef,.int .i64 x.2,undef,undef,.agg (zC b As cs Al cl),.pointer (some ⟨w.heap.size+1+1,2,none⟩),.pointer (some ⟨w.heap.size+1+1,3,none⟩),.pointer (some ⟨w.heap.size,2,none⟩),.slice As b.sup.length cs,.func (.func 194) #[] #[.pointer (some ⟨w.heap.size+1+1+1,0,none⟩)],.int .i64 x.1,.int .i64 x.2,undef,undef,undef,undef,undef,undef,undef,undef,undef,undef,undef,undef,undef,undef,undef,undef,undef,undef,undef,undef,undef,undef,undef,undef,undef,undef,undef,undef,undef,undef,undef],defers:=[] }) ?assign ?body ?done ?stop
  case assign=>
    intro l x W K hK;gi_wp2
    exact hK
  case body=>
    rintro l pre x W ⟨⟨v2,hT⟩,hB⟩ ao;have c1:=hT.d0.cell 1;have c2:=hT.d2.cell 2;simp only[aG,aH,aD] at c1 c2;have HT:=zh hT;have HB:=zh hB;have hlp:(pre.map fun p=>wrap64 (b.len-p.2)).length+1≤1000:=by rw[yP]; omega
    have gg:=hB.size;clear hT hB Kw;gi_wp2_with (gi_at_builtin; refine wpListIn_append_own _ rfl _ _ 22 rfl w.heap.size 3 i0 (.int .i64 0) 1 8 Tryz.underlying22 hi hH jb km rfl (by decide) _ _ _ rfl (HT.o.o2.alloc _) ⟨W.heap.size,0,none⟩ 1 1 [.int .i64 (wrap64 (b.len-x.2))] rfl rfl (cell_one_new _ _ _) (by simp[Value.oneCell']) (by unfold maxLen; omega) (by omega) (by simp; omega) ?_; intro v' w1 fT eI _; obtain⟨g',tL,rfl⟩:=ownsRow_succ fT; obtain⟨e2,hT'⟩:=(HT.o.alloc _).step2 fT eI; have HT':=zh hT'; have HG:=zh eI; have f2:=e2.frozen 2; have Xl:=e2.cell 2; simp only[aG,aH,aD] at Xl; clear hT' eI fT e2)
    have mV:=fun j (ej:v2.ownBlock=some j)=>((HT.o.alloc (.cells #[.int .i64 (wrap64 (b.len-x.2))] 3)).o2.lt j ej);have hKO:=((KeepsOthers.alloc W (.cells #[.int .i64 (wrap64 (b.len-x.2))] 3)).trans (KeepsOthers.of_grownBy HG.o fun j o ej hj=>by
      obtain⟨c',hc⟩:=tj (HT.o.alloc (.cells #[.int .i64 (wrap64 (b.len-x.2))] 3)).o2 ej;rw[hc] at hj;cases hj;rfl)).trans (KeepsOthers.setCell w1 ⟨w.heap.size+1+1,2,none⟩ (.slice (some ⟨g',0,none⟩) ((pre.map fun p=>wrap64 (b.len-p.2)).length+1) tL))
    have hBe:=(((yB w.heap.size W).alloc gg (.cells #[.int .i64 (wrap64 (b.len-x.2))] 3)).grown HG.o (by simp; omega) (fun j ej=>(mV j ej).1)).setCell (p:=⟨w.heap.size+1+1,2,none⟩) (by show w.heap.size≤w.heap.size+1+1; omega) (.slice (some ⟨g',0,none⟩) ((pre.map fun p=>wrap64 (b.len-p.2)).length+1) tL);have P5:=HT'.o;rw[yP] at hKO hBe P5;refine⟨hKO.from _,⟨hBe,fun v hv=>?_⟩,⟨.slice (some ⟨g',0,none⟩) (pre.length+1) tL,?_⟩,HB.o.trans hBe⟩
    · rw[HT.o.d3.cell 0] at hv
      rw[P5.d3.cell 0];exact hv
    rw[yS];exact P5
  case done=>
    rintro D ys W hD rfl ⟨⟨v2,hT⟩,hB⟩ hK;have Km:((j9 (nD b.sup) b.sup.length).map fun p=>wrap64 (b.len-p.2))=(al b).sup:=by
      have hs:=Hb.o.sup;have hl:=Hb.o.len;apply List.ext_getElem
      · simp[j9,al]
      intro i h1 h2;have hi':i<b.sup.length:=by simpa[j9] using h1
      have h3:=hs (b.sup.length-1-i) (by omega);have h4:ah b (b.sup.length-1-i)=b.sup[b.sup.length-1-i]'(by omega):=by unfold ah; rw[List.getD_eq_getElem?_getD,List.getElem?_eq_getElem (by omega)]; rfl
      rw[h4] at h3;simp only[j9,List.map_map,List.getElem_map,List.getElem_range,Function.comp,al,List.getElem_reverse,nD];rw[yM (show b.sup.length-1-i<b.sup.length by omega)];simp only[Option.getD_some];unfold wrap64;omega
    rw[Km] at hT;clear Km Kw;have c3:=hT.d0.cell 3;simp only[aG,aH,aD] at c3;have HT:=zh hT;have HB:=zh hB;have HK:=zh hK;clear hT hB hK;obtain⟨iA,hiA,vzg,vzf,vze⟩:=info_parts mT;gi_wp2
    gi_loopw [28] (fun ix wr=>∃k:Nat,k≤b.loads.length∧ix=.int .i64 k∧Y0 (∃v3,TnB w wr b As cs Al cl v2 v3 (al b).sup ((al b).loads.take k))∧Y0 (Below w.heap.size w wr)∧Y0 (wr.heap[D]?=some (.deferred (some [])))) (fun ix _=>b.loads.length-(intOf ix).toNat)
    case atStart=>exact⟨0,yI _,rfl,⟨_,HT.o⟩,HB,HK⟩
    clear HT HB HK c3;obtain⟨k,hk,rfl,HTx,HB,HK⟩:=hrel;obtain⟨v3,hT⟩:=HTx.o;have HT:=zh hT;clear hT HTx;have k0:(0:Int)≤(k:Int):=yE _;by_cases ay:k<b.loads.length
    · have k1:(k:Int)<(b.loads.length:Int):=by omega
      obtain⟨_,_,e,_,eG,pZ⟩:=HL.o.open_;injection e with e1 _ e2;subst e1 e2;obtain⟨b2,o2,rfl,ao,hx⟩:=pZ k ay;obtain⟨cB,dc⟩:=hx k ay;have cB:=(HB.o.cell (p:=⟨b2,o2+k*2,none⟩) ao).trans cB;have dc:=(HB.o.cell (p:=⟨b2,o2+k*2+1,none⟩) ao).trans dc;obtain⟨p1,p2,p3,p4⟩:=Hb.o.loads _ (yV ay);obtain⟨rV,sO⟩:=Hb.o.len;have HY:Y0 ((al b).loads.take (k+1)=(al b).loads.take k++[⟨b.len-b.loads[k].pos,b.loads[k].wt⟩]):=by
        unfold Y0;rw[aY _ k (by simpa[al] using ay)];simp[al]
      have GV:((al b).loads.take k).length+1≤1000:=by
        have:=Hb.o.loads1;rw[YA];simp only[al,List.length_map];omega
      clear pZ hx eG;generalize b.loads[k]=x at*;obtain⟨pos,wt⟩:=x;simp only at cB dc p1 p2 p3 p4;have HA:=zh ((HT.o.alloc (.cells #[.int .i64 pos,.int .i64 wt] 40)).alloc (.cells #[.int .i64 (b.len-pos),.int .i64 wt] 40));have rU:=World.news_of_block (Blk.new (wr.alloc (.cells #[.int .i64 pos,.int .i64 wt] 40)) 40 #[.int .i64 (b.len-pos),.int .i64 wt]);rw[yZ] at rU;have my:=zh rU;have A1:=HT.o.alloc (.cells #[.int .i64 pos,.int .i64 wt] 40)
      have c01:=A1.d0.cell 1;have c23:=A1.d2.cell 3;simp only[aG,aH,aD] at c01 c23;have gg:=HB.o.size;have kb:(b.loads.length:Int)≤40:=by have:=Hb.o.loads1; omega
      clear rU A1;gi_wp2_with (gi_at_builtin; refine wpListIn_append_own _ rfl _ _ 41 rfl w.heap.size 40 iA (.agg #[.int .i64 0,.int .i64 0]) 2 16 Tryz.underlying41 hiA vzg vzf vze rfl (by decide) _ _ _ rfl HA.o.o3 ⟨wr.heap.size+1,0,none⟩ 1 1 [.int .i64 (b.len-pos),.int .i64 wt] rfl rfl my.o (by simp[Value.oneCell']) (by unfold maxLen; omega) (by omega) (by simp; omega) ?_; intro v' w1 fT eI _; obtain⟨g',tL,rfl⟩:=ownsRow_succ fT; obtain⟨e2,hT'⟩:=HA.o.step3 (y:=⟨b.len-pos,wt⟩) fT eI; have HT':=zh hT'; have HG:=zh eI; have f2:=e2.frozen 3; have Xl:=e2.cell 3; simp only[aG,aH,aD] at Xl; clear hT' eI fT e2)
      have mV:=fun j (ej:v3.ownBlock=some j)=>HA.o.o3.lt j ej;have hKO:=(((KeepsOthers.alloc wr (.cells #[.int .i64 pos,.int .i64 wt] 40)).trans (KeepsOthers.alloc _ (.cells #[.int .i64 (b.len-pos),.int .i64 wt] 40))).trans (KeepsOthers.of_grownBy HG.o fun j o ej hj=>by
        obtain⟨c',hc⟩:=tj HA.o.o3 ej;rw[hc] at hj;cases hj;rfl)).trans (KeepsOthers.setCell w1 ⟨w.heap.size+1+1,3,none⟩ (.slice (some ⟨g',0,none⟩) (((al b).loads.take k).length+1) tL))
      have hBe:=((((yB w.heap.size wr).alloc gg (.cells #[.int .i64 pos,.int .i64 wt] 40)).alloc (by simp; omega) (.cells #[.int .i64 (b.len-pos),.int .i64 wt] 40)).grown HG.o (by simp; omega) (fun j ej=>(mV j ej).1)).setCell (p:=⟨w.heap.size+1+1,3,none⟩) (by show w.heap.size≤w.heap.size+1+1; omega) (.slice (some ⟨g',0,none⟩) (((al b).loads.take k).length+1) tL);have P5:=HT'.o;rw[YA] at hKO hBe P5
      rw[←HY.o] at P5;have HK2:=zh (hKO.same D _ HK.o rfl);have dZ:=zh (HB.o.trans hBe);have Au:=zh P5;clear hKO hBe P5;go_roundw
      case rel=>exact⟨k+1,by omega,by go_num,⟨_,Au.o⟩,dZ,HK2⟩
      simp[intOf]; omega
    obtain rfl:k=b.loads.length:=by omega
    have hT:=HT.o;rw[List.take_of_length_le (by simp[al])] at hT;obtain⟨A2,c2,rfl⟩:=Fu hT.o2;obtain⟨A3,c3,rfl⟩:=Fu hT.o3;have y0:=hT.d2.cell 0;have y1:=hT.d2.cell 1;have y2:=hT.d2.cell 2;have y3:=hT.d2.cell 3;have y4:=hT.d2.cell 4;have z0:=hT.d1.cell 0;have z1:=hT.d1.cell 1;have z2:=hT.d1.cell 2;have z3:=hT.d1.cell 3;have z4:=hT.d1.cell 4;have f0:=hT.d1.frozen 0;have f1:=hT.d1.frozen 1;have f2:=hT.d1.frozen 2
    have f3:=hT.d1.frozen 3;have f4:=hT.d1.frozen 4;simp only[aG,aH,aD] at y0 y1 y2 y3 y4 z0 z1 z2 z3 z4;have HT:=zh hT;clear hT;gi_wp2
    have YY:=((((HT.o.d1.set_ 0 (.string b.name)).set_ 1 (.int .i64 b.len)).set_ 2 (.slice A2 (al b).sup.length c2)).set_ 3 (.slice A3 (al b).loads.length c3)).set_ 4 (.int .i64 b.even);have Mt:=I0 wr (w.heap.size+1) (.string b.name) (.int .i64 b.len) (.slice A2 (al b).sup.length c2) (.slice A3 (al b).loads.length c3) (.int .i64 b.even);have hK9:=(KeepsOthers.of_grownBy Mt fun j o ej hj=>by
      obtain rfl:w.heap.size+1=j:=by simpa using ej
      have h:=HT.o.d1;unfold Blk at h;rw[h] at hj;cases hj;rfl).same D _ HK.o rfl
    have hB9 := HB.o.grown Mt HB.o.size (fun k e=>by
     obtain rfl:w.heap.size + 1=k := by simpa using e
     omega)
    have C8:=HT.o.o2.kept Mt (Zj HT.o.o2 fun r e c f hh=>by
      obtain rfl:w.heap.size+1=r:=by simpa using e
      have h:=HT.o.d1;unfold Blk at h;rw[h] at hh;injection hh with hh;injection hh with _ hh _;exact absurd hh (by decide))
    have ho3:=HT.o.o3.kept Mt (Zj HT.o.o3 fun r e c f hh=>by
      obtain rfl:w.heap.size+1=r:=by simpa using e
      have h:=HT.o.d1;unfold Blk at h;rw[h] at hh;injection hh with hh;injection hh with _ hh _;exact absurd hh (by decide))
    generalize ((((wr.setCell ⟨w.heap.size+1,0,none⟩ (.string b.name)).setCell ⟨w.heap.size+1,1,none⟩ (.int .i64 b.len)).setCell ⟨w.heap.size+1,2,none⟩ (.slice A2 (al b).sup.length c2)).setCell ⟨w.heap.size+1,3,none⟩ (.slice A3 (al b).loads.length c3)).setCell ⟨w.heap.size+1,4,none⟩ (.int .i64 b.even)=W9 at*;refine⟨by simp,.inl ⟨_,_,rfl,run_takeDeferred hK9,?_⟩⟩;have vh:=grownBy_putObj' W9 D (.deferred none)
    have hDz:Blk (W9.putObj D (.deferred none)) (w.heap.size+1) 43 #[.string b.name,.int .i64 b.len,.slice A2 (al b).sup.length c2,.slice A3 (al b).loads.length c3,.int .i64 b.even]:=Blk.kept YY vh (fun e=>by
      obtain rfl:w.heap.size+1=D:=by simpa using e
      unfold Blk at YY;rw[YY] at hK9;cases hK9)
    have p0:=hDz.cell 0;have p1:=hDz.cell 1;have p2:=hDz.cell 2;have p3:=hDz.cell 3;have p4:=hDz.cell 4;simp only[aG,aH,aD] at p0 p1 p2 p3 p4;refine⟨.agg #[.string b.name,.int .i64 b.len,.slice A2 (al b).sup.length c2,.slice A3 (al b).loads.length c3,.int .i64 b.even],by simp[results,Tryz.results116,go_sem,p0,p1,p2,p3,p4],?_⟩;have hBz:=hB9.trans (belowK_b (w:=w) (yA _) W9 D _ (.deferred none) (by omega) hK9 rfl rfl)
    refine⟨hBz,_,rfl,A2,c2,A3,c3,rfl,?_,?_⟩
    · exact RowAt.of_own (ownsRow_putObj C8 (.deferred none) hK9 rfl)
    exact Flat.of_own (ownsRow_putObj ho3 (.deferred none) hK9 rfl)
  rintro D c pre W _ _ h _;exact h.elim
theorem G3 (v:Value) (b:BeamT) (w:World) (hv:BeamAt w w.heap.size v b) (hb:BeamOk b):Calls Tryz.prog 116 #[v] w (TurnedPost b w) :=
 callsIn_wide.1 (G2 Fence.wide 3 trivial trivial trivial rfl (yA _) v b w hv hb)
