/- Lemmas. -/
import Derived.Test.YtmmhehgajkaniaaGreatDoorZ23
namespace Go.Proofs.YtmmhehgajkaniaaGreatDoor
set_option maxRecDepth 100000
set_option maxHeartbeats 40000000
open Go.RowKit Go.Shelf
theorem qO {n:Nat} (h:n≤1152921504606846976):ag n≤3:=jd (by show n<16777216^3;omega)
theorem Fs {l:List Int} (h:∀x∈l,x.natAbs ≤ 1152921504606846976):∀k,k ≤ l.length→ag (du (l.take k)).natAbs ≤ 3 * k + 1
 | 0,_=>by
  show ag 1≤1;rw[yr];exact yA _
 | k+1,hk=>by
  have ih:=Fs h k (by omega);rw[aY l k (by omega),mO,Int.natAbs_mul];have h1:=im ih (qO (h l[k] (yV (by omega))));omega
def BgBox (w:World) (D:Nat) (z:Int):Prop:=∃b A l c,Blk w D 191 #[.bool b,.slice A l c]∧BigAt w w.heap.size b (.slice A l c) z
theorem BgBox.grow {w w':World} {D:Nat} {z:Int} (h:BgBox w D z) (hb:Below w.heap.size w w'):BgBox w' D z:=by
 obtain⟨b,A,l,c,h1,h2⟩:=h;exact⟨b,A,l,c,h1.below hb h1.lt,h2.grow hb⟩
theorem BgBox.put {w:World} {D:Nat} {z z0:Int} (h0:BgBox w D z0) {b:Bool} {A:Option Addr} {l c:Nat} (h:BigAt w w.heap.size b (.slice A l c) z):BgBox ((w.setCell ⟨D,0,none⟩ (.bool b)).setCell ⟨D,1,none⟩ (.slice A l c)) D z:=by
 obtain⟨b0,A0,l0,c0,h1,-⟩:=h0;have z0:=h1.cell 0;have z1:=(h1.set_ 0 (.bool b)).cell 1;simp only[aG,aD] at z0;have g1:=DgTo.set h.2 z0 (fun z=>by simp) (.bool b);have g2:=DgTo.set g1 (u:=.slice A0 l0 c0) z1 (fun z=>by simp) (.slice A l c);exact⟨b,A,l,c,(h1.set_ 0 _).set_ 1 _,h.1,DgTo.mono g2 (by simp[World.setCell])⟩
theorem gj (by_:Int) (v:Value) (l:List Int) (w:World) (hv:bg w w.heap.size v l) (hl:l.length≤8) (hx:∀x∈l,x.natAbs≤1152921504606846976) (eH:0<by_) (ak:by_≤1152921504606846976) :
  Calls Tryz.prog 145 #[v,.int .i64 by_] w (eD w (Zu by_ l) 30):=by
 obtain⟨A,c,rfl,fU,cM,aj⟩:=hv.open_;unfold maxLen at cM;have HX:=zh hx;have HC:=zh aj;have Xt:=zh eH;have cP:=zh ak;have HR:=zh (Blk.new w 193 (zD false none 0 0 false none 0 0));have HB:=zh ((yB _ w).alloc (yA _) (.cells (zD false none 0 0 false none 0 0) 193));clear aj hv hx eH ak;go_enter Tryz.func145,Tryz.ntmps145;go_wp2_with fail;generalize w.alloc (.cells (zD false none 0 0 false none 0 0) 193)=W0 at*
 refine (AQ 1 W0 (by decide) (by decide)).mono ?_;rintro e w1 ⟨n1,v1,rfl,ak,sR⟩;obtain⟨A1,c1,rfl,-⟩:=DgTo.open_ sR.2;generalize ag (1:Int).natAbs=l1 at*;have KX:=zh ((HR.o.below ak HR.o.lt).alloc (.cells #[.bool n1,.slice A1 l1 c1] 191));have K6:=HB.o.trans (ak.mono HB.o.size);have WQ:=zh (K6.alloc K6.size (.cells #[.bool n1,.slice A1 l1 c1] 191));have zx:Y0 (BgBox (w1.alloc (.cells #[.bool n1,.slice A1 l1 c1] 191)) w1.heap.size (du (l.take 0))):=⟨n1,A1,l1,c1,Blk.new _ _ _,sR.grow ((yB _ _).alloc (yA _) _)⟩
 have PE:Y0 (w.heap.size<w1.heap.size):=yK HR.o.lt ak.size;clear HR HB ak sR K6;go_wp2_with fail;generalize eb:w1.heap.size=D5 at*;clear eb;go_loopw [6] (fun ix wr=>∃k:Nat,k≤l.length∧ix=.int .i64 k∧Y0 (BgBox wr D5 (du (l.take k)))∧Y0 (Blk wr w.heap.size 193 (zD false none 0 0 false none 0 0))∧Y0 (Below w.heap.size w wr)) (fun ix _=>l.length-(intOf ix).toNat)
 case atStart=>exact⟨0,yI _,rfl,zx,KX,WQ⟩
 clear zx KX WQ;obtain⟨k,hk,rfl,HN,HR,HB⟩:=hrel;have k0:(0:Int)≤(k:Int):=yE _;obtain⟨nb,nA,nl,nc,hNb,hNn⟩:=HN.o;obtain⟨q0,q1⟩:=hNb.c2;have HNb:=zh hNb;have WB:=zh hNn;have HPk:=zh (Fs HX.o k hk);clear hNb hNn;by_cases ay:k<l.length
 ·have k1:(k:Int)<(l.length:Int):=by omega
  obtain⟨b2,o2,rfl,ao,eG⟩:=HC.o k ay;have hx:=(HB.o.cell (p:=⟨b2,o2+k,none⟩) ao).trans (eG k ay);have HXk:=zh (HX.o l[k] (yV ay));have HP:Y0 (du (l.take (k+1))=du (l.take k)*l[k]):=by unfold Y0;rw[aY l k ay,mO]
  clear eG ao;generalize l[k]=x at*;go_upto_region 5 with fail;have u0:=YL q0;have u1:=YL q1;have ux:=YL hx;clear hx q0 q1;refine af 7 (fun i=>if i=5 then some (Hu x) else if i=6 then some (Hu (du (l.take k)*x)) else none) (by kernel_rfl) (by kernel_rfl) ?_;simp only[aM,aP,aN,aO];refine zw 5 ?_;simp only[aM,aP,aN,aO]
  repeat (go_big_quiet_step (fail))
  refine YE ?_;refine ae rfl rfl (fun w1 ak _=>⟨178,#[.int .i64 x],by go_simp,dV (AQ x w1 (by have:=HXk.o;omega) (by have:=HXk.o;omega))⟩) ?_;rintro _ ⟨rb,rA,rc,rfl⟩;simp only[Act.put,aC,aB,aA];refine ae rfl rfl ?_ ?_
  ·intro w1 ak Oi;obtain⟨_,_,e17,h17⟩:∃s v,Value.agg #[.bool rb,.slice rA (ag x.natAbs) rc]=.agg #[.bool s,v]∧BigAt w1 w1.heap.size s v x:=Oi 19 (by decide);cases e17;exact zc (dV (gu _ _ _ _ (du (l.take k)) x w1 (WB.o.grow ak) h17 (by have:=HPk.o;omega) (by have:=qO HXk.o;omega)))
  rintro _ ⟨sb,sA,sc,rfl⟩;simp only[Act.put,aC,aB,aA];refine Zc ?_;intro w5 aR hF;obtain⟨_,_,e18,h18⟩:∃s v,Value.agg #[.bool sb,.slice sA (ag (du (l.take k)*x).natAbs) sc]=.agg #[.bool s,v]∧BigAt w5 w5.heap.size s v (du (l.take k)*x):=hF 20;cases e18;have cJ:=zh (HB.o.trans (aR.mono HB.o.size));have pb:=zh (HR.o.below aR HR.o.lt);have xZ:=HNb.o.below aR HNb.o.lt;have q0:=xZ.cell 0;have q1:=xZ.cell 1
  have f0:=xZ.frozen 0;have f1:=xZ.frozen 1;simp only[aG,aH,aD] at q0 q1;generalize WZ:ag (du (l.take k)*x).natAbs=sl at*;clear WZ;rw[←HP.o] at h18;have H18:=zh h18;have PI:=zh (HN.o.grow aR);clear hF u0 u1 ux h18 aR xZ HP HN HR HB HNb WB;go_wp2_with fail;have Pe:=zh (PI.o.put H18.o);have vp:=zh ((pb.o.far (p:=⟨D5,0,none⟩) (Nat.ne_of_lt PE.o) (.bool sb)).far (p:=⟨D5,1,none⟩) (Nat.ne_of_lt PE.o) (.slice sA sl sc))
  have kH:=zh ((cJ.o.setCell (p:=⟨D5,0,none⟩) (YG PE.o) (.bool sb)).setCell (p:=⟨D5,1,none⟩) (YG PE.o) (.slice sA sl sc));clear q0 q1 f0 f1 H18 PI pb cJ;go_roundw
  case rel=>exact⟨k+1,by omega,by go_num,Pe,vp,kH⟩
  simp[intOf];omega
 obtain rfl:k=l.length:=by omega
 rw[yT] at WB HPk;go_upto_region 6 with fail;have u0:=YL q0;have u1:=YL q1;clear q0 q1;refine af 4 (fun i=>if i=2 then some (Hu by_) else none) (by kernel_rfl) (by kernel_rfl) ?_;simp only[aM,aP,aN,aO];refine zw 2 ?_;simp only[aM,aP,aN,aO]
 repeat (go_big_quiet_step (fail))
 refine YE ?_;refine ae rfl rfl (fun w1 ak _=>⟨178,#[.int .i64 by_],by go_simp,dV (AQ by_ w1 (by have:=Xt.o;omega) cP.o)⟩) ?_;rintro _ ⟨rb,rA,rc,rfl⟩;simp only[Act.put,aC,aB,aA];refine zw 1 ?_;simp only[aM,aP,aN,aO]
 repeat (go_big_quiet_step (fail))
 refine YE ?_;refine Zc ?_;intro w5 aR hF;obtain⟨_,_,e22,h22⟩:∃s v,Value.agg #[.bool rb,.slice rA (ag by_.natAbs) rc]=.agg #[.bool s,v]∧BigAt w5 w5.heap.size s v by_:=hF 23;cases e22;have HL:Y0 (ExqAt w5 w5.heap.size (.agg (zD nb nA nl nc rb rA (ag by_.natAbs) rc)) (Zu by_ l) 30):=⟨_,_,_,_,du l,by_,rfl,WB.o.grow aR,h22,Xt.o,by have:=HPk.o;omega,by have:=cP.o;have:=Xt.o;have:=qO (n:=by_.natAbs) (by omega);omega,rfl⟩
 have ep:=zh (HB.o.trans (aR.mono HB.o.size));have bj:=zh (HR.o.below aR HR.o.lt);have eu:=zh (jL (w:=w) (yA _) ep.o bj.o HL.o);have q0:=bj.o.cell 0;have q1:=bj.o.cell 1;have q2:=bj.o.cell 2;have q3:=bj.o.cell 3;have f0:=bj.o.frozen 0;have f1:=bj.o.frozen 1;have f2:=bj.o.frozen 2;have f3:=bj.o.frozen 3;simp only[aG,aH,aD] at q0 q1 q2 q3;clear hF u0 u1 h22 aR HN HR HB HNb WB;go_wp2_with fail;refine YF (v:=.agg (zD nb nA nl nc rb rA (ag by_.natAbs) rc)) (by simp[results,Tryz.results145,go_sem,q0,q1,q2,q3]) rfl ?_
 exact⟨_,rfl,eu.o.1,eu.o.2⟩
theorem wM (w:World):Calls Tryz.prog 143 #[] w (eD w 0 30):=by
 have HR:=zh (Blk.new w 193 (zD false none 0 0 false none 0 0));have HB:=zh ((yB _ w).alloc (yA _) (.cells (zD false none 0 0 false none 0 0) 193));go_enter Tryz.func143,Tryz.ntmps143;go_upto_region 1 with fail;generalize w.alloc (.cells (zD false none 0 0 false none 0 0) 193)=W0 at*;have HI:Y0 (bg (W0.alloc (.cells #[.int .i64 0] 3)) (W0.alloc (.cells #[.int .i64 0] 3)).heap.size (.slice (some ⟨W0.heap.size,0,none⟩) 1 1) [0]):=RowAt.of_own (xi W0 3 (.int .i64 0))
 have HBa:=zh (HB.o.alloc HB.o.size (.cells #[.int .i64 0] 3));have Av:=zh (HR.o.alloc (.cells #[.int .i64 0] 3));go_wp2_with fail;refine (gj 1 _ [0] _ HI.o (by decide) (by decide) (by decide) (by decide)).mono ?_;rintro e w5 ⟨v5,rfl,aR,h5⟩;obtain⟨s1,A1,l1,c1,s2,A2,l2,c2,_,_,rfl,-⟩:=bS h5;have HL:=zh h5;have ep:=zh (HBa.o.trans (aR.mono HBa.o.size));have bj:=zh (Av.o.below aR Av.o.lt);have eu:=zh (jL (w:=w) (yA _) ep.o bj.o HL.o)
 have q0:=bj.o.cell 0;have q1:=bj.o.cell 1;have q2:=bj.o.cell 2;have q3:=bj.o.cell 3;have f0:=bj.o.frozen 0;have f1:=bj.o.frozen 1;have f2:=bj.o.frozen 2;have f3:=bj.o.frozen 3;simp only[aG,aH,aD] at q0 q1 q2 q3;clear h5 aR;go_wp2_with fail;refine YF (v:=.agg (zD s1 A1 l1 c1 s2 A2 l2 c2)) (by simp[results,Tryz.results143,go_sem,q0,q1,q2,q3]) rfl ?_;have h0:Zu 1 [0]=0:=by decide
 have h1:=eu.o.2;rw[h0] at h1;exact⟨_,rfl,eu.o.1,h1⟩
def jy (b:BeamT) (a:Int) (k:Nat):Rat:=az b (rY a) (Zu 2000 [b.even,a,a]) k
def dx (b:BeamT) (a:Int):Rat:=jy b a b.loads.length
def EqBox (w:World) (D:Nat) (q:Rat) (K:Nat):Prop:=∃b1 A1 l1 c1 b2 A2 l2 c2,Blk w D 193 #[.bool b1,.slice A1 l1 c1,.bool b2,.slice A2 l2 c2]∧ExqAt w w.heap.size (.agg #[.bool b1,.slice A1 l1 c1,.bool b2,.slice A2 l2 c2]) q K
theorem EqBox.grow {w w':World} {D:Nat} {q:Rat} {K:Nat} (h:EqBox w D q K) (hb:Below w.heap.size w w'):EqBox w' D q K:=by
 obtain⟨b1,A1,l1,c1,b2,A2,l2,c2,h1,h2⟩:=h;exact⟨b1,A1,l1,c1,b2,A2,l2,c2,h1.below hb h1.lt,h2.grow hb⟩
theorem EqBox.new {w:World} {q:Rat} {K:Nat} {b1:Bool} {A1:Option Addr} {l1 c1:Nat} {b2:Bool} {A2:Option Addr} {l2 c2:Nat} (h:ExqAt w w.heap.size (.agg (zD b1 A1 l1 c1 b2 A2 l2 c2)) q K):EqBox (w.alloc (.cells (zD b1 A1 l1 c1 b2 A2 l2 c2) 193)) w.heap.size q K :=
 ⟨b1,A1,l1,c1,b2,A2,l2,c2,Blk.new _ _ _,h.grow ((yB _ _).alloc (yA _) _)⟩
theorem EqBox.put {w:World} {D:Nat} {q q':Rat} {K K':Nat} (h0:EqBox w D q K) {b1:Bool} {A1:Option Addr} {l1 c1:Nat} {b2:Bool} {A2:Option Addr} {l2 c2:Nat} (hE:ExqAt w w.heap.size (.agg (zD b1 A1 l1 c1 b2 A2 l2 c2)) q' K') :
  EqBox ((((w.setCell ⟨D,0,none⟩ (.bool b1)).setCell ⟨D,1,none⟩ (.slice A1 l1 c1)).setCell ⟨D,2,none⟩ (.bool b2)).setCell ⟨D,3,none⟩ (.slice A2 l2 c2)) D q' K':=by
 obtain⟨x1,X1,y1,z1,x2,X2,y2,z2,hD,-⟩:=h0;have h1:=hD.set_ 0 (.bool b1);have h2:=h1.set_ 1 (.slice A1 l1 c1);have h3:=h2.set_ 2 (.bool b2);have t0:=hD.cell 0;have t1:=h1.cell 1;have t2:=h2.cell 2;have t3:=h3.cell 3;simp only[aG,aD] at t0;have hU:∀ {v:Value} {x k:Nat},DgTo w w.heap.size v x k→DgTo ((((w.setCell ⟨D,0,none⟩ (.bool b1)).setCell ⟨D,1,none⟩ (.slice A1 l1 c1)).setCell ⟨D,2,none⟩ (.bool b2)).setCell ⟨D,3,none⟩ (.slice A2 l2 c2)) ((((w.setCell ⟨D,0,none⟩ (.bool b1)).setCell ⟨D,1,none⟩ (.slice A1 l1 c1)).setCell ⟨D,2,none⟩ (.bool b2)).setCell ⟨D,3,none⟩ (.slice A2 l2 c2)).heap.size v x k:=fun h=>by
  have g1:=DgTo.set h t0 (fun z=>by simp) (.bool b1);have g2:=DgTo.set g1 (u:=.slice X1 y1 z1) t1 (fun z=>by simp) (.slice A1 l1 c1);have g3:=DgTo.set g2 (u:=.bool x2) t2 (fun z=>by simp) (.bool b2);have g4:=DgTo.set g3 (u:=.slice X2 y2 z2) t3 (fun z=>by simp) (.slice A2 l2 c2);exact DgTo.mono g4 (by simp[World.setCell])
 obtain⟨_,_,_,_,N,E,e,h4,h5,h6⟩:=hE;cases e;exact⟨_,_,_,_,_,_,_,_,h3.set_ 3 (.slice A2 l2 c2),_,_,_,_,N,E,rfl,⟨h4.1,hU h4.2⟩,⟨h5.1,hU h5.2⟩,h6⟩
structure SumQ (w wr:World) (bx:Array Value) (Ds:Nat) (q:Rat) (K:Nat):Prop where
 bm:Blk wr w.heap.size 43 bx
 res:Blk wr (w.heap.size+1) 193 (zD false none 0 0 false none 0 0)
 sum:EqBox wr Ds q K
 bel:Below w.heap.size w wr
 far:w.heap.size+1<Ds
theorem SumQ.grow {w wr w':World} {bx:Array Value} {Ds:Nat} {q:Rat} {K:Nat} (h:SumQ w wr bx Ds q K) (hb:Below wr.heap.size wr w'):SumQ w w' bx Ds q K :=
 ⟨h.bm.below hb h.bm.lt,h.res.below hb h.res.lt,h.sum.grow hb,h.bel.trans (hb.mono h.bel.size),h.far⟩
theorem SumQ.more {w wr:World} {bx:Array Value} {Ds:Nat} {q:Rat} {K K':Nat} (h:SumQ w wr bx Ds q K) (hK:K≤K'):SumQ w wr bx Ds q K':=by
 obtain⟨x1,X1,y1,z1,x2,X2,y2,z2,hD,h1⟩:=h.sum;exact⟨h.bm,h.res,⟨x1,X1,y1,z1,x2,X2,y2,z2,hD,h1.more hK⟩,h.bel,h.far⟩
theorem SumQ.put {w wr:World} {bx:Array Value} {Ds:Nat} {q q':Rat} {K K':Nat} (h:SumQ w wr bx Ds q K) {b1:Bool} {A1:Option Addr} {l1 c1:Nat} {b2:Bool} {A2:Option Addr} {l2 c2:Nat} (hE:ExqAt wr wr.heap.size (.agg (zD b1 A1 l1 c1 b2 A2 l2 c2)) q' K') :
  SumQ w ((((wr.setCell ⟨Ds,0,none⟩ (.bool b1)).setCell ⟨Ds,1,none⟩ (.slice A1 l1 c1)).setCell ⟨Ds,2,none⟩ (.bool b2)).setCell ⟨Ds,3,none⟩ (.slice A2 l2 c2)) bx Ds q' K':=by
 have hf:=h.far;exact⟨h.bm.far4 (by omega) _ _ _ _,h.res.far4 (by omega) _ _ _ _,h.sum.put hE,bA h.bel (by omega) _ _ _ _,h.far⟩
theorem SumQ.start {w w1:World} {bx:Array Value} {q:Rat} {K:Nat} (hb:Below (w.heap.size + 2) ((w.alloc (.cells bx 43)).alloc (.cells (zD false none 0 0 false none 0 0) 193)) w1)
  {b1:Bool} {A1:Option Addr} {l1 c1:Nat} {b2:Bool} {A2:Option Addr} {l2 c2:Nat} (hE:ExqAt w1 w1.heap.size (.agg (zD b1 A1 l1 c1 b2 A2 l2 c2)) q K) :
  SumQ w (w1.alloc (.cells (zD b1 A1 l1 c1 b2 A2 l2 c2) 193)) bx w1.heap.size q K:=by
 have h1:Blk ((w.alloc (.cells bx 43)).alloc (.cells (zD false none 0 0 false none 0 0) 193)) (w.heap.size+1) 193 (zD false none 0 0 false none 0 0):=by
  have:=Blk.new (w.alloc (.cells bx 43)) 193 (zD false none 0 0 false none 0 0);simpa using this
 have h2:=(Blk.new w 43 bx).alloc (.cells (zD false none 0 0 false none 0 0) 193);have h3:Below w.heap.size w ((w.alloc (.cells bx 43)).alloc (.cells (zD false none 0 0 false none 0 0) 193)):=((yB _ _).alloc (yA _) _).alloc (by simp) _;have h4:Below w.heap.size w w1:=h3.trans (hb.mono (by omega));have de:w.heap.size+2≤w1.heap.size:=by have:=hb.size;simpa using this
 exact⟨(h2.below hb (by omega)).alloc _,(h1.below hb (by omega)).alloc _,EqBox.new hE,h4.alloc h4.size _,by omega⟩
theorem AI {x y:Int} (h1:x.natAbs≤1152921504606846976) (h2:y.natAbs≤1152921504606846976):∀z∈[x,y],z.natAbs≤1152921504606846976:=fun z hz=>by
 simp at hz;rcases hz with rfl|rfl
 ·exact h1
 exact h2
theorem I4 (v:Value) (b:BeamT) (a:Int) (w:World) (hv:BeamAt w w.heap.size v b) (hb:BeamOk b) (DG:0≤a) (On:a≤b.len):Calls Tryz.prog 176 #[v,.int .i64 a] w (eD w (dx b a) 1270):=by
 obtain⟨As,cs,Al,cl,rfl,hS,hL⟩:=hv;obtain⟨_,_,e,_,eG,pZ⟩:=hL.open_;injection e with e1 _ e2;subst e1 e2;have h2:=hb.loads1;have h3:=hb.even;have h5:=hb.len;unfold maxLen at eG;have zQ:=zh pZ;have Hb:=zh hb;obtain⟨Zb,h32⟩:=h3;obtain⟨h51,h52⟩:=h5;clear pZ hb hS hL;go_enter Tryz.func176,Tryz.ntmps176;go_wp2_with fail;have hI:=gb ((w.alloc (.cells (zC b As cs Al cl) 43)).alloc (.cells (zD false none 0 0 false none 0 0) 193)) 3 [b.even,a,a] (yU rfl)
 have de:((w.alloc (.cells (zC b As cs Al cl) 43)).alloc (.cells (zD false none 0 0 false none 0 0) 193)).heap.size=w.heap.size+1+1:=by simp
 rw[de] at hI;refine (gj 2000 _ [b.even,a,a] _ hI (yU rfl) (fun x hx=>?_) (by decide) (by decide)).mono ?_
 ·simp at hx;omega
 rintro e w1 ⟨v1,rfl,lB,lG⟩;obtain⟨m1,B1,k1,d1,m2,B2,k2,d2,_,_,rfl,-⟩:=bS lG;have mW:=((yB _ ((w.alloc (.cells (zC b As cs Al cl) 43)).alloc (.cells (zD false none 0 0 false none 0 0) 193))).alloc (yA _) (.cells #[.int .i64 b.even,.int .i64 a,.int .i64 a] 3)).trans (lB.mono (by simp));rw[de] at mW;have aS:=zh (SumQ.start mW lG);have HH:Y0 (jy b a 0=Zu 2000 [b.even,a,a]):=rfl;clear hI de lB lG mW;go_wp2_with fail
 generalize w1.heap.size=Ds at*;rw[←HH.o] at aS;clear HH;go_loopw [6] (fun ix wr=>∃k:Nat,k≤b.loads.length∧ix=.int .i64 k∧Y0 (SumQ w wr (zC b As cs Al cl) Ds (jy b a k) (30+31*k))) (fun ix _=>b.loads.length-(intOf ix).toNat)
 case atStart=>exact⟨0,yI _,rfl,aS⟩
 clear aS;obtain⟨k,hk,rfl,aS⟩:=hrel;have k0:(0:Int)≤(k:Int):=yE _;have c3:=aS.o.bm.cell 3;obtain⟨mK,mM,mC,mI,mJ,mL,mB,mH,hB,hE⟩:=aS.o.sum;have y0:=hB.cell 0;have y1:=hB.cell 1;have y2:=hB.cell 2;have y3:=hB.cell 3;simp only[aG,aH,aD] at y0 y1 y2 y3 c3;have HE:=zh hE;clear hB hE;by_cases ay:k<b.loads.length
 ·have k1:(k:Int)<(b.loads.length:Int):=by omega
  obtain⟨b2,o2,rfl,ao,eG⟩:=zQ.o k ay;obtain⟨cB,dc⟩:=eG k ay;have cB:=(aS.o.bel.cell (p:=⟨b2,o2+k*2,none⟩) ao).trans cB;have dc:=(aS.o.bel.cell (p:=⟨b2,o2+k*2+1,none⟩) ao).trans dc;obtain⟨p1,p2,p3,p4⟩:=Hb.o.loads _ (yV ay);have jO:=zh (Zl (b:=b) (f:=rY a) (s:=Zu 2000 [b.even,a,a]) ay);clear eG;generalize b.loads[k]=x at*;obtain⟨pos,wt⟩:=x;simp only at cB dc p1 p2 p3 p4;by_cases uv:pos<a
  ·have hd:decide (pos<a)=true:=yD uv;have HT:Y0 (jy b a (k+1)=jy b a k+Zu 1 [wt,a-pos]):=by
    unfold Y0 jy;rw[jO.o];unfold rY;simp only[if_pos uv]
   have kZ:(a-pos).natAbs≤1152921504606846976:=by omega
   have jT:wt.natAbs≤1152921504606846976:=by omega
   have v1:IntKind.i64.wrap (a-pos)=a-pos:=yF _ (by omega);clear jO;go_upto_region 6 with fail;have u0:=YL y0;have u1:=YL y1;have u2:=YL y2;have u3:=YL y3;have u4:=YL cB;have u5:=YL dc;have u6:=YL c3;clear y0 y1 y2 y3 cB dc c3;refine af 18 (fun i=>if i=15 then some (gI [wt,a-pos]) else if i=16 then some (jU (Zu 1 [wt,a-pos]) 30) else if i=17 then some (jU (jy b a k+Zu 1 [wt,a-pos]) (30+31*(k+1))) else none) (by kernel_rfl) (by kernel_rfl) ?_
   simp only[aM,aP,aN,aO];refine zw 15 ?_;simp only[aM,aP,aN,aO]
   repeat (go_big_quiet_step (fail))
   refine YE ?_;refine aV rfl rfl (fun w1 ak _=>fG (T:=3) (l:=[wt,a-pos]) (yU rfl) (by go_simp)) ?_;rintro _ ⟨g35,rfl⟩;simp only[Act.put,aC,aB,aA];refine ae rfl rfl ?_ ?_
   ·intro w1 ak hk;have h35:bg w1 w1.heap.size (.slice (some ⟨g35,0,none⟩) 2 2) [wt,a-pos]:=hk 43 (by decide);have hC:=Zg (gj 1 _ [wt,a-pos] w1 h35 (yU rfl) (AI jT kZ) (by decide) (by decide));exact zc hC
   rintro _ ⟨EA,EC,E5,E7,E8,EB,E0,E6,rfl⟩;simp only[Act.put,aC,aB,aA];refine ae rfl rfl ?_ ?_
   ·intro w1 ak hk;have h36:ExqAt w1 w1.heap.size (.agg (zD EA EC E5 E7 E8 EB E0 E6)) (Zu 1 [wt,a-pos]) 30:=hk 44 (by decide);have hC:=Zg (iX _ _ _ _ (30+31*k) 30 w1 (HE.o.grow ak) h36 (by omega));exact zc hC
   rintro _ ⟨Ex,Ez,Et,Ev,Ew,Ey,Es,Eu,rfl⟩;simp only[Act.put,aC,aB,aA];refine Zc ?_;intro w8 aJ hF;have h37:ExqAt w8 w8.heap.size (.agg (zD Ex Ez Et Ev Ew Ey Es Eu)) (jy b a k+Zu 1 [wt,a-pos]) (30+31*(k+1)):=hF 45;have HL:=zh h37;have dt:=zh (aS.o.grow aJ);obtain⟨_,_,_,_,_,_,_,_,h1,-⟩:=dt.o.sum;have q0:=h1.cell 0;have q1:=h1.cell 1;have q2:=h1.cell 2;have q3:=h1.cell 3;have f0:=h1.frozen 0;have f1:=h1.frozen 1
   have f2:=h1.frozen 2;have f3:=h1.frozen 3;simp only[aG,aH,aD] at q0 q1 q2 q3;rw[←HT.o] at HL;clear hF u0 u1 u2 u3 u4 u5 u6 aJ h37 h1 HE aS;go_wp2_with fail;have nP:=zh (dt.o.put HL.o);clear q0 q1 q2 q3 f0 f1 f2 f3 HL dt;go_roundw
   case rel=>exact⟨k+1,by omega,by go_num,nP⟩
   simp[intOf];omega
  have hd:decide (pos<a)=false:=yC uv;have HT:Y0 (jy b a (k+1)=jy b a k):=by
   unfold Y0 jy;rw[jO.o];unfold rY;simp only[if_neg uv]
  have et:Y0 (SumQ w wr (zC b As cs (some ⟨b2,o2,none⟩) cl) Ds (jy b a (k+1)) (30+31*(k+1))):=by
   rw[HT.o];exact aS.o.more (by omega)
  clear jO aS;go_wp2_with fail;go_roundw
  case rel=>exact⟨k+1,by omega,by go_num,et⟩
  simp[intOf];omega
 obtain rfl:k=b.loads.length:=by omega
 have r0:=aS.o.res.cell 0;have r1:=aS.o.res.cell 1;have r2:=aS.o.res.cell 2;have r3:=aS.o.res.cell 3;have f0:=aS.o.res.frozen 0;have f1:=aS.o.res.frozen 1;have f2:=aS.o.res.frozen 2;have f3:=aS.o.res.frozen 3;simp only[aG,aH,aD] at r0 r1 r2 r3;have eu:=zh (jL (w:=w) (YH _) aS.o.bel aS.o.res (HE.o.more (K':=1270) (by omega)));clear aS;go_wp2_with fail;refine YF (v:=.agg (zD mK mM mC mI mJ mL mB mH)) (by simp[results,Tryz.results176,go_sem,r0,r1,r2,r3]) rfl ?_
 exact⟨_,rfl,eu.o.1,eu.o.2⟩
theorem t8 (b:BeamT):bu b=((0:Int):Rat)-dx b (ah b 0):=rfl
theorem AP (v:Value) (b:BeamT) (a:Int) (w:World) (hv:BeamAt w w.heap.size v b) (hb:BeamOk b) (DG:0≤a) (On:a≤b.len) (hT:∀(u:Value) (w1:World),BeamAt w1 w1.heap.size u b→Calls Tryz.prog 205 #[u] w1 (TurnedPost b w1)) :
  Calls Tryz.prog 177 #[v,.int .i64 a] w (eD w (dx (al b) (b.len-a)) 1270):=by
 have BR:=hv;obtain⟨As,cs,Al,cl,rfl,-⟩:=hv;have h5:=hb.len;have HbT:=zh (lK hb);have HT:=zh hT;have HA:Y0 (0≤b.len-a∧b.len-a≤b.len):=by unfold Y0;omega
 have v0:IntKind.i64.wrap (b.len-a)=b.len-a:=yF _ (by omega);have hbW:Below w.heap.size w ((w.alloc (.cells (zC b As cs Al cl) 43)).alloc (.cells (zD false none 0 0 false none 0 0) 193)):=((yB _ w).alloc (yA _) _).alloc (by simp) _;have B1:=(Blk.new w 43 (zC b As cs Al cl)).alloc (.cells (zD false none 0 0 false none 0 0) 193);have B3:=Blk.new (w.alloc (.cells (zC b As cs Al cl) 43)) 193 (zD false none 0 0 false none 0 0)
 rw[yZ] at B3;have HV:=zh (BR.grow hbW);have bp:=zh hbW;clear hbW BR hT hb;go_enter Tryz.func177,Tryz.ntmps177;go_upto_region 1 with fail;generalize (w.alloc (.cells (zC b As cs Al cl) 43)).alloc (.cells (zD false none 0 0 false none 0 0) 193)=W2 at*;obtain⟨y0,y1,y2,y3,y4⟩:=B1.c5;have u0:=YL y0;have u1:=YL y1;have u2:=YL y2;have u3:=YL y3;have u4:=YL y4;have B3:=zh B3;clear y0 y1 y2 y3 y4 B1;refine af 7 (fun i=>if i=1 then some (gB (al b)) else if i=6 then some (jU (dx (al b) (b.len-a)) 1270) else none) (by kernel_rfl) (by kernel_rfl) ?_
 simp only[aM,aP,aN,aO];refine zw 1 ?_;simp only[aM,aP,aN,aO]
 repeat (go_big_quiet_step (fail))
 refine YE ?_;refine ae rfl rfl ?_ ?_
 ·intro w1 ak hk;exact zc (TurnedPost.g (HT.o _ w1 (HV.o.grow ak)))
 rintro _ ⟨tAs,tcs,tAl,tcl,rfl⟩;simp only[Act.put,aC,aB,aA];refine zw 4 ?_;simp only[aM,aP,aN,aO]
 repeat (go_big_quiet_step (fail))
 refine YE ?_;refine ae rfl rfl ?_ ?_
 ·intro w1 ak hk;have h6:BeamAt w1 w1.heap.size (.agg (zC (al b) tAs tcs tAl tcl)) (al b):=hk 6 (by decide);exact zc (Zg (I4 _ (al b) (b.len-a) w1 h6 HbT.o HA.o.1 HA.o.2))
 rintro _ ⟨r1,R1,l1,c1,r2,R2,l2,c2,rfl⟩;simp only[Act.put,aC,aB,aA];refine Zc ?_;intro w8 aJ hF;have HL:Y0 (ExqAt w8 w8.heap.size (.agg (zD r1 R1 l1 c1 r2 R2 l2 c2)) (dx (al b) (b.len-a)) 1270):=hF 11;have bj:=zh (B3.o.below aJ B3.o.lt);have ep:=zh (bp.o.trans (aJ.mono bp.o.size));have eu:=zh (jL (w:=w) (YH _) ep.o bj.o HL.o);have q0:=bj.o.cell 0;have q1:=bj.o.cell 1;have q2:=bj.o.cell 2;have q3:=bj.o.cell 3
 have f0:=bj.o.frozen 0;have f1:=bj.o.frozen 1;have f2:=bj.o.frozen 2;have f3:=bj.o.frozen 3;simp only[aG,aH,aD] at q0 q1 q2 q3;clear hF aJ u0 u1 u2 u3 u4;go_wp2_with fail;refine YF (v:=.agg (zD r1 R1 l1 c1 r2 R2 l2 c2)) (by simp[results,Tryz.results177,go_sem,q0,q1,q2,q3]) rfl ?_;exact⟨_,rfl,eu.o.1,eu.o.2⟩
theorem qj1 {x y z:Int} (h1:x.natAbs≤1152921504606846976) (h2:y.natAbs≤1152921504606846976) (h3:z.natAbs≤1152921504606846976):∀u∈[x,y,z],u.natAbs≤1152921504606846976:=fun u hu=>by
 simp at hu;rcases hu with rfl|rfl|rfl
 ·exact h1
 ·exact h2
 exact h3
theorem Qu (v:Value) (b:BeamT) (lo hi:Int) (lf:Bool) (p q:Int) (Yx:lf=true∧p=hi∧q=lo∨lf=false∧p=lo∧q=hi) (w:World) (hv:BeamAt w w.heap.size v b) (hb:BeamOk b) (DG:0≤lo) (On:lo<hi) (Xg:hi≤b.len):Calls Tryz.prog 180 #[v,.int .i64 p,.int .i64 q] w (eD w (cH b lo hi lf) 1270):=by
 obtain⟨As,cs,Al,cl,rfl,hS,hL⟩:=hv;obtain⟨_,_,e,_,eG,pZ⟩:=hL.open_;injection e with e1 _ e2;subst e1 e2;have h2:=hb.loads1;have h3:=hb.even;have h5:=hb.len;unfold maxLen at eG;have zQ:=zh pZ;have Hb:=zh hb;obtain⟨Zb,h32⟩:=h3;obtain⟨h51,h52⟩:=h5;obtain⟨s,hs⟩:∃s,s=hi-lo:=⟨_,rfl⟩;have Hs:=zh hs;have s1:1≤s:=by omega
 have s2:s≤1048576:=by omega
 rcases Yx with⟨U2,hp,hq⟩|⟨U2,hp,hq⟩
 case' inl=>
  have v0:IntKind.i64.wrap (p-q)=s:=(yF _ (by omega)).trans (by omega);have d0:decide (s<0)=false:=yC (by omega);have d1:decide (p<q)=false:=yC (by omega);have HSd:Y0 (∀pos,0≤pos→pos≤1048576→∃o,o=pos-lo∧IntKind.i64.wrap (pos-q)=o∧IntKind.i64.wrap (q-pos)=-o):=fun pos h1 h2=>⟨_,rfl,(yF _ (by omega)).trans (by omega),(yF _ (by omega)).trans (by omega)⟩
 case' inr=>
  have v0:IntKind.i64.wrap (p-q)=-s:=(yF _ (by omega)).trans (by omega);have v1:IntKind.i64.wrap (q-p)=s:=(yF _ (by omega)).trans (by omega);have d0:decide (-s<0)=true:=yD (by omega);have d1:decide (p<q)=true:=yD (by omega);have HSd:Y0 (∀pos,0≤pos→pos≤1048576→∃o,o=hi-pos∧IntKind.i64.wrap (pos-q)=-o∧IntKind.i64.wrap (q-pos)=o):=fun pos h1 h2=>⟨_,rfl,(yF _ (by omega)).trans (by omega),(yF _ (by omega)).trans (by omega)⟩
 all_goals
  have Hlf:=zh U2;clear pZ hb hS hL hs U2 hp hq;go_enter Tryz.func180,Tryz.ntmps180;go_wp2_with fail;have hI:=gb ((w.alloc (.cells (zC b As cs Al cl) 43)).alloc (.cells (zD false none 0 0 false none 0 0) 193)) 3 [b.even,s,s,s] (yU rfl);have de:((w.alloc (.cells (zC b As cs Al cl) 43)).alloc (.cells (zD false none 0 0 false none 0 0) 193)).heap.size=w.heap.size+1+1:=by simp
  rw[de] at hI;refine (gj 4000 _ [b.even,s,s,s] _ hI (yU rfl) (fun x hx=>?_) (by decide) (by decide)).mono ?_
  ·simp at hx;omega
  rintro e w1 ⟨v1,rfl,lB,lG⟩;obtain⟨m1,B1,k1,d1,m2,B2,k2,d2,_,_,rfl,-⟩:=bS lG;have mW:=((yB _ ((w.alloc (.cells (zC b As cs Al cl) 43)).alloc (.cells (zD false none 0 0 false none 0 0) 193))).alloc (yA _) (.cells #[.int .i64 b.even,.int .i64 s,.int .i64 s,.int .i64 s] 3)).trans (lB.mono (by simp));rw[de] at mW;have aS:=zh (SumQ.start mW lG);have HH:Y0 (bZ b lo hi lf 0=Zu 4000 [b.even,s,s,s]):=by unfold Y0;rw[Hs.o];rfl
  clear hI de lB lG mW;go_wp2_with fail;generalize w1.heap.size=Ds at*;rw[←HH.o] at aS;clear HH;go_loopw [9] (fun ix wr=>∃k:Nat,k≤b.loads.length∧ix=.int .i64 k∧Y0 (SumQ w wr (zC b As cs Al cl) Ds (bZ b lo hi lf k) (30+31*k))) (fun ix _=>b.loads.length-(intOf ix).toNat)
  case atStart=>exact⟨0,yI _,rfl,aS⟩
  clear aS;obtain⟨k,hk,rfl,aS⟩:=hrel;have k0:(0:Int)≤(k:Int):=yE _;have c3:=aS.o.bm.cell 3;obtain⟨mK,mM,mC,mI,mJ,mL,mB,mH,hB,hE⟩:=aS.o.sum;have y0:=hB.cell 0;have y1:=hB.cell 1;have y2:=hB.cell 2;have y3:=hB.cell 3;simp only[aG,aH,aD] at y0 y1 y2 y3 c3;have HE:=zh hE;clear hB hE;by_cases ay:k<b.loads.length
  ·have k1:(k:Int)<(b.loads.length:Int):=by omega
   obtain⟨b2,o2,rfl,ao,eG⟩:=zQ.o k ay;obtain⟨cB,dc⟩:=eG k ay;have cB:=(aS.o.bel.cell (p:=⟨b2,o2+k*2,none⟩) ao).trans cB;have dc:=(aS.o.bel.cell (p:=⟨b2,o2+k*2+1,none⟩) ao).trans dc;obtain⟨p1,p2,p3,p4⟩:=Hb.o.loads _ (yV ay);have jO:=zh (Zl (b:=b) (f:=pX lo hi lf) (s:=Zu 4000 [b.even,hi-lo,hi-lo,hi-lo]) ay);clear eG;generalize b.loads[k]=x at*;obtain⟨pos,wt⟩:=x;simp only at cB dc p1 p2 p3 p4;obtain⟨o,ho,v2,v3⟩:=HSd.o pos (by omega) (by omega)
   have Ho:=zh ho;by_cases uv:0<o∧o<s
   ·have e1:decide (0<o)=true:=yD uv.1;have e2:decide (o<s)=true:=yD uv.2;have HT:Y0 (bZ b lo hi lf (k+1)=bZ b lo hi lf k+Zu s [wt,o,s*s-o*o]):=by
     have:=Hs.o;unfold Y0 bZ;rw[jO.o];unfold pX;rw[if_neg (show ¬(pos≤lo∨hi≤pos) by omega)];simp only[Hlf.o,if_true,Bool.false_eq_true,if_false];rw[←Ho.o,←Hs.o]
    have hss:0≤s*s∧s*s≤1099511627776:=⟨Int.mul_nonneg (by omega) (by omega),Int.mul_le_mul s2 s2 (by omega) (by decide)⟩;have hoo:0≤o*o∧o*o≤1099511627776:=⟨Int.mul_nonneg (by omega) (by omega),Int.mul_le_mul (show o≤1048576 by omega) (show o≤1048576 by omega) (by omega) (by decide)⟩;have w1:IntKind.i64.wrap (s*s)=s*s:=yF _ (by omega);have w2:IntKind.i64.wrap (o*o)=o*o:=yF _ (by omega);have w3:IntKind.i64.wrap (s*s-o*o)=s*s-o*o:=yF _ (by omega)
    have kZ:o.natAbs≤1152921504606846976:=by omega
    have jT:wt.natAbs≤1152921504606846976:=by omega
    have C6:(s*s-o*o).natAbs≤1152921504606846976:=by omega
    clear jO hss hoo uv ho;go_upto_region 12 with fail;have u0:=YL y0;have u1:=YL y1;have u2:=YL y2;have u3:=YL y3;have u4:=YL cB;have u5:=YL dc;have u6:=YL c3;clear y0 y1 y2 y3 cB dc c3;refine af 19 (fun i=>if i=15 then some (gI [wt,o,s*s-o*o]) else if i=17 then some (jU (Zu s [wt,o,s*s-o*o]) 30) else if i=18 then some (jU (bZ b lo hi lf k+Zu s [wt,o,s*s-o*o]) (30+31*(k+1))) else none) (by kernel_rfl) (by kernel_rfl) ?_
    simp only[aM,aP,aN,aO];refine zw 15 ?_;simp only[aM,aP,aN,aO]
    repeat (go_big_quiet_step (fail))
    refine YE ?_;refine aV rfl rfl (fun w1 ak _=>fG (T:=3) (l:=[wt,o,s*s-o*o]) (yU rfl) (by go_simp)) ?_;rintro _ ⟨g35,rfl⟩;simp only[Act.put,aC,aB,aA];refine zw 1 ?_;simp only[aM,aP,aN,aO]
    repeat (go_big_quiet_step (fail))
    refine YE ?_;refine ae rfl rfl ?_ ?_
    ·intro w1 ak hk;have h35:bg w1 w1.heap.size (.slice (some ⟨g35,0,none⟩) 3 3) [wt,o,s*s-o*o]:=hk 74 (by decide);have hC:=Zg (gj s _ [wt,o,s*s-o*o] w1 h35 (yU rfl) (qj1 jT kZ C6) (by omega) (by omega));exact zc hC
    rintro _ ⟨EA,EC,E5,E7,E8,EB,E0,E6,rfl⟩;simp only[Act.put,aC,aB,aA];refine ae rfl rfl ?_ ?_
    ·intro w1 ak hk;have h36:ExqAt w1 w1.heap.size (.agg (zD EA EC E5 E7 E8 EB E0 E6)) (Zu s [wt,o,s*s-o*o]) 30:=hk 76 (by decide);have hC:=Zg (iX _ _ _ _ (30+31*k) 30 w1 (HE.o.grow ak) h36 (by omega));exact zc hC
    rintro _ ⟨Ex,Ez,Et,Ev,Ew,Ey,Es,Eu,rfl⟩;simp only[Act.put,aC,aB,aA];refine Zc ?_;intro w8 aJ hF;have h37:ExqAt w8 w8.heap.size (.agg (zD Ex Ez Et Ev Ew Ey Es Eu)) (bZ b lo hi lf k+Zu s [wt,o,s*s-o*o]) (30+31*(k+1)):=hF 77;have HL:=zh h37;have dt:=zh (aS.o.grow aJ);obtain⟨_,_,_,_,_,_,_,_,h1,-⟩:=dt.o.sum;have q0:=h1.cell 0;have q1:=h1.cell 1;have q2:=h1.cell 2;have q3:=h1.cell 3;have f0:=h1.frozen 0
    have f1:=h1.frozen 1;have f2:=h1.frozen 2;have f3:=h1.frozen 3;simp only[aG,aH,aD] at q0 q1 q2 q3;rw[←HT.o] at HL;clear hF u0 u1 u2 u3 u4 u5 u6 aJ h37 h1 HE aS;go_wp2_with fail;have nP:=zh (dt.o.put HL.o);clear q0 q1 q2 q3 f0 f1 f2 f3 HL dt;go_roundw
    case rel=>exact⟨k+1,by omega,by go_num,nP⟩
    simp[intOf];omega
   have HT:Y0 (bZ b lo hi lf (k+1)=bZ b lo hi lf k):=by
    have:=Hs.o;unfold Y0 bZ;rw[jO.o];unfold pX;rw[if_pos (show pos≤lo∨hi≤pos by omega)]
   have et:Y0 (SumQ w wr (zC b As cs (some ⟨b2,o2,none⟩) cl) Ds (bZ b lo hi lf (k+1)) (30+31*(k+1))):=by
    rw[HT.o];exact aS.o.more (by omega)
   have hc:decide (0<o)=false∨decide (0<o)=true∧decide (o<s)=false:=by
    by_cases h:0<o
    ·exact .inr ⟨yD h,yC (by omega)⟩
    exact .inl (yC h)
   clear jO aS HT uv ho;rcases hc with e1|⟨e1,e2⟩
   all_goals
    go_wp2_with fail;go_roundw
    case rel=>exact⟨k+1,by omega,by go_num,et⟩
    simp[intOf];omega
  obtain rfl:k=b.loads.length:=by omega
  have r0:=aS.o.res.cell 0;have r1:=aS.o.res.cell 1;have r2:=aS.o.res.cell 2;have r3:=aS.o.res.cell 3;have f0:=aS.o.res.frozen 0;have f1:=aS.o.res.frozen 1;have f2:=aS.o.res.frozen 2;have f3:=aS.o.res.frozen 3;simp only[aG,aH,aD] at r0 r1 r2 r3;have eu:=zh (jL (w:=w) (YH _) aS.o.bel aS.o.res (HE.o.more (K':=1270) (by omega)));clear aS;go_wp2_with fail;refine YF (v:=.agg (zD mK mM mC mI mJ mL mB mH)) (by simp[results,Tryz.results180,go_sem,r0,r1,r2,r3]) rfl ?_
  exact⟨_,rfl,eu.o.1,eu.o.2⟩
theorem qqm (v:Value) (b:BeamT) (lo hi:Int) (w:World) (hv:BeamAt w w.heap.size v b) (hb:BeamOk b) (DG:0≤lo) (On:lo<hi) (Xg:hi≤b.len):Calls Tryz.prog 180 #[v,.int .i64 hi,.int .i64 lo] w (eD w (cH b lo hi true) 1270) :=
 Qu v b lo hi true hi lo (.inl ⟨rfl,rfl,rfl⟩) w hv hb DG On Xg
theorem qqn (v:Value) (b:BeamT) (lo hi:Int) (w:World) (hv:BeamAt w w.heap.size v b) (hb:BeamOk b) (DG:0≤lo) (On:lo<hi) (Xg:hi≤b.len):Calls Tryz.prog 180 #[v,.int .i64 lo,.int .i64 hi] w (eD w (cH b lo hi false) 1270) :=
 Qu v b lo hi false lo hi (.inr ⟨rfl,rfl,rfl⟩) w hv hb DG On Xg
def iQ (o:Option Rat):Rat:=match o with|some y=>y|none=>0
theorem jS {b:BeamT} {f:LoadT→Option Rat} {s:Rat} {k:Nat} (hk:k<b.loads.length):az b f s (k+1)=az b f s k+iQ (f b.loads[k]):=by
 rw[Zl hk]
 cases f b.loads[k] with
 | none=>show _=_+(0:Rat);rw[Rat.add_zero]
 | some y=>rfl
theorem oz (b:BeamT) (f:LoadT→Option Rat) (s:Rat):∀k,k ≤ b.loads.length→az b f s k=s + az b f 0 k
 | 0,_=>by
  show s=s+(0:Rat);rw[Rat.add_zero]
 | k+1,hk=>by
  rw[jS (by omega),jS (by omega),oz b f s k (by omega)];grind
def qB (b:BeamT) (q:Rat) (i:Nat):Rat:=((2*(aX b i+aX b (i+1)):Int):Rat)-((aX b i:Int):Rat)*q
def jA (b:BeamT):Nat→Rat×Rat
 | 0=>(bu b,0)
 | i+1=>((ki b (i+1)-((aX b (i+1):Int):Rat)*(jA b i).1)/qB b (jA b i).2 (i+1),((aX b (i+2):Int):Rat)/qB b (jA b i).2 (i+1))
def ZM (b:BeamT):Nat→Rat
 | 0=>bu (al b)
 | j+1=>(jA b (b.sup.length-2-j)).1-(jA b (b.sup.length-2-j)).2*ZM b j
theorem LH (b:BeamT) (hz:∀i,1≤i→i+1<b.sup.length→bK b i≠0):∀i,i+2<b.sup.length →
  qB b (jA b i).2 (i+1)=bK b (i+1)∧(jA b (i+1)).1=gK b (i+1)/bK b (i+1)∧(jA b (i+1)).2=((aX b (i+2):Int):Rat)/bK b (i+1)
 | 0,h=>by
  have e:qB b (jA b 0).2 1=bK b 1:=by
   show ((2*(aX b 1+aX b 2):Int):Rat)-((aX b 1:Int):Rat)*0=((2*(aX b 1+aX b 2):Int):Rat);grind
  refine⟨e,?_,?_⟩
  ·show (ki b 1-((aX b 1:Int):Rat)*bu b)/qB b (jA b 0).2 1=(ki b 1-bu b*((aX b 1:Int):Rat))/bK b 1;rw[e,Rat.mul_comm]
  show ((aX b 2:Int):Rat)/qB b (jA b 0).2 1=_;rw[e]
 | i+1,h=>by
  obtain⟨h1,h2,h3⟩:=LH b hz i (by omega);have hd:=hz (i+1) (by omega) (by omega);have e:qB b (jA b (i+1)).2 (i+2)=bK b (i+2):=by
   unfold qB;rw[h3];show _=((2*(aX b (i+2)+aX b (i+3)):Int):Rat)-((aX b (i+2):Int):Rat)/bK b (i+1)*((aX b (i+2):Int):Rat);rw[Rat.mul_comm]
  refine⟨e,?_,?_⟩
  ·show (ki b (i+2)-((aX b (i+2):Int):Rat)*(jA b (i+1)).1)/qB b (jA b (i+1)).2 (i+2)=(ki b (i+2)-((aX b (i+2):Int):Rat)/bK b (i+1)*gK b (i+1))/bK b (i+2);rw[e,h2];congr 1
   generalize gK b (i+1)=r at*;generalize bK b (i+1)=d at*;generalize ((aX b (i+2):Int):Rat)=k at*;generalize ki b (i+2)=z at*;clear h1 h2 h3 e;grind
  show ((aX b (i+3):Int):Rat)/qB b (jA b (i+1)).2 (i+2)=_;rw[e]
theorem KR (b:BeamT) (hz:∀i,1 ≤ i→i + 1 < b.sup.length→bK b i ≠ 0):∀j,j + 1 < b.sup.length→ZM b j=zq b j
 | 0,_=>rfl
 | j+1,h=>by
  have ih:=KR b hz j (by omega);obtain⟨i,hi⟩:∃i,b.sup.length-2-j=i+1:=⟨b.sup.length-3-j,by omega⟩;obtain⟨-,h2,h3⟩:=LH b hz i (by omega);have hd:=hz (i+1) (by omega) (by omega);rw[ZM,zq,ih,hi,h2,h3,show b.sup.length-1-j=i+2 by omega];generalize gK b (i+1)=r at*;generalize bK b (i+1)=d at*;generalize ((aX b (i+2):Int):Rat)=k at*;generalize zq b j=z at*;clear h2 h3 ih;grind
def qN (b:BeamT) (i:Nat) (x:LoadT):Option Rat:=if x.pos=ah b i∨(i=0∧x.pos<ah b 0)∨(i+1=b.sup.length∧ah b i<x.pos) then some ((x.wt:Int):Rat) else none
def Q9 (b:BeamT) (i:Nat):Rat:=az b (qN b i) 0 b.loads.length
def GM (b:BeamT) (i:Nat):Rat:=if i=0 then Q9 b i+Zu 1000 [b.even,ah b 0] else Q9 b i
def Ep (b:BeamT) (i:Nat):Rat:=if i+1=b.sup.length then GM b i+Zu 1000 [b.even,b.len-ah b i] else GM b i
def Dk (b:BeamT) (lo hi:Int) (left:Bool) (m k:Rat) (s:Rat):Rat:=az b (gp lo hi left) (s+Zu 2000 [b.even,hi-lo]) b.loads.length+(k-m)*Zu (hi-lo) [1]
def I8 (b:BeamT) (i:Nat):Rat:=if 0<i then Dk b (ah b (i-1)) (ah b i) false (Zx b i) (Zx b (i-1)) (Ep b i) else Ep b i
def N5 (b:BeamT) (i:Nat):Rat:=if i+1<b.sup.length then Dk b (ah b i) (ah b (i+1)) true (Zx b i) (Zx b (i+1)) (I8 b i) else I8 b i
theorem Z5 (b:BeamT) (i:Nat) (x:LoadT):iQ (qN b i x)=iQ (oH (ah b i) x)+(if i=0 then iQ (eC (ah b i) x) else 0)+(if i+1=b.sup.length then iQ (eC (b.len-ah b i) ⟨b.len-x.pos,x.wt⟩) else 0):=by
 unfold qN oH eC;have e:((⟨b.len-x.pos,x.wt⟩:LoadT).pos<b.len-ah b i)↔ah b i<x.pos:=by
  show b.len-x.pos<b.len-ah b i↔_;omega
 simp only[e];rcases Int.lt_trichotomy x.pos (ah b i) with h|h|h
 ·rw[if_neg (show ¬x.pos=ah b i by omega),if_pos h,if_neg (show ¬ah b i<x.pos by omega)];by_cases h0:i=0
  ·subst h0;rw[if_pos (.inr (.inl ⟨rfl,h⟩)),if_pos rfl];simp only[iQ];split <;> grind
  rw[if_neg (by omega),if_neg h0];simp only[iQ];split <;> grind
 ·rw[if_pos (.inl h),if_pos h,if_neg (show ¬x.pos<ah b i by omega),if_neg (show ¬ah b i<x.pos by omega)];simp only[iQ];split <;> split <;> grind
 rw[if_neg (show ¬x.pos=ah b i by omega),if_neg (show ¬x.pos<ah b i by omega),if_pos h];by_cases h0:i+1=b.sup.length
 ·rw[if_pos (.inr (.inr ⟨h0,h⟩)),if_pos h0];simp only[iQ];split <;> grind
 rw[if_neg (by
  rintro (h1|⟨h1,h2⟩|⟨h1,h2⟩)
  ·omega
  ·subst h1;omega
  exact h0 h1),if_neg h0]
 simp only[iQ];split <;> grind
theorem M3 (b:BeamT) (i:Nat):∀k,k ≤ b.loads.length→az b (qN b i) 0 k=az b (oH (ah b i)) 0 k + (if i=0 then az b (eC (ah b i)) 0 k else 0) + (if i + 1=b.sup.length then az (al b) (eC (b.len - ah b i)) 0 k else 0)
 | 0,_=>by
  show (0:Rat)=0+(if i=0 then (0:Rat) else 0)+(if i+1=b.sup.length then (0:Rat) else 0);split <;> split <;> grind
 | k+1,hk=>by
  have ih:=M3 b i k (by omega);have ay:k<b.loads.length:=by omega
  have hkt:k<(al b).loads.length:=by simpa[al] using ay
  have ht:(al b).loads[k]=⟨b.len-b.loads[k].pos,b.loads[k].wt⟩:=by simp[al]
  rw[jS ay,jS ay,jS ay,jS hkt,ht,ih,Z5];generalize az b (oH (ah b i)) 0 k=u1 at*;generalize az b (eC (ah b i)) 0 k=u2 at*;generalize az (al b) (eC (b.len-ah b i)) 0 k=u3 at*;generalize iQ (oH (ah b i) b.loads[k])=v1 at*;generalize iQ (eC (ah b i) b.loads[k])=v2 at*;generalize iQ (eC (b.len-ah b i) _)=v3 at*;split <;> split <;> grind
theorem Wh (b:BeamT) {lo hi:Int} (left:Bool) (m k s:Rat) (h:lo<hi):Dk b lo hi left m k s=s+dN b lo hi left+(k-m)/((hi-lo:Int):Rat):=by
 unfold Dk dN cQ;rw[oz b _ (s+_) _ (yA _),oz b _ (Zu 2000 _) _ (yA _)];have e:Zu (hi-lo) [1]=1/((hi-lo:Int):Rat):=by
  unfold Zu;rw[show du [1]=1 from rfl,Rat.divInt_eq_div,Rat.intCast_one]
 rw[e];have dL:((hi-lo:Int):Rat)≠0:=by
  intro h0
  have:hi-lo=0:=Rat.intCast_eq_zero_iff.mp h0;omega
 generalize ((hi-lo:Int):Rat)=d at*;generalize Zu 2000 [b.even,hi-lo]=z;generalize az b (gp lo hi left) 0 b.loads.length=y;grind
theorem qj7 (b:BeamT) (Y3:∀i,i+1<b.sup.length→ah b i<ah b (i+1)) (i:Nat) (hi:i<b.sup.length):N5 b i=nX b i:=by
 have e1:=M3 b i b.loads.length (yA _);have e2:iL b i=az b (oH (ah b i)) 0 b.loads.length:=by
  unfold iL iN;rfl
 have e3:dX b (ah b i)=Zu 1000 [b.even,ah b i]+az b (eC (ah b i)) 0 b.loads.length:=by
  unfold dX dW;exact oz b _ _ _ (yA _)
 have e4:dX (al b) (b.len-ah b i)=Zu 1000 [b.even,b.len-ah b i]+az (al b) (eC (b.len-ah b i)) 0 b.loads.length:=by
  have hl:(al b).loads.length=b.loads.length:=by simp[al]
  unfold dX dW;rw[oz (al b) _ _ _ (yA _),hl];rfl
 have a1:0<i→Dk b (ah b (i-1)) (ah b i) false (Zx b i) (Zx b (i-1)) (Ep b i)=Ep b i+dN b (ah b (i-1)) (ah b i) false+(Zx b (i-1)-Zx b i)/((aX b i:Int):Rat):=fun h0=>by
  have:=Y3 (i-1) (by omega);rw[show i-1+1=i by omega] at this;exact Wh b false _ _ _ this
 have a2:i+1<b.sup.length→Dk b (ah b i) (ah b (i+1)) true (Zx b i) (Zx b (i+1)) (I8 b i)=I8 b i+dN b (ah b i) (ah b (i+1)) true+(Zx b (i+1)-Zx b i)/((aX b (i+1):Int):Rat):=fun h0=>
  Wh b true _ _ _ (Y3 i h0)
 unfold N5 nX jt ju gY;rw[e2,e3,e4];by_cases h0:0<i
 ·have n0:¬i=0:=by omega
  rw[if_neg n0] at e1;rw[if_pos h0,if_neg n0];by_cases hl:i+1<b.sup.length
  ·have nl:¬i+1=b.sup.length:=by omega
   rw[if_neg nl] at e1;rw[if_pos hl,if_neg nl,if_pos hl,a2 hl];unfold I8;rw[if_pos h0,a1 h0];unfold Ep GM Q9;rw[if_neg nl,if_neg n0,e1];clear a1 a2 e1 e2 e3 e4;grind
  have pl:i+1=b.sup.length:=by omega
  rw[if_pos pl] at e1;rw[if_neg hl,if_pos pl,if_neg hl];unfold I8;rw[if_pos h0,a1 h0];unfold Ep GM Q9;rw[if_pos pl,if_neg n0,e1];clear a1 a2 e1 e2 e3 e4;grind
 have p0:i=0:=by omega
 rw[if_pos p0] at e1;rw[if_neg h0,if_pos p0];by_cases hl:i+1<b.sup.length
 ·have nl:¬i+1=b.sup.length:=by omega
  rw[if_neg nl] at e1;rw[if_pos hl,if_neg nl,if_pos hl,a2 hl];unfold I8;rw[if_neg h0];unfold Ep GM Q9;rw[if_neg nl,if_pos p0,e1,show ah b 0=ah b i by rw[p0]];clear a1 a2 e1 e2 e3 e4;grind
 have pl:i+1=b.sup.length:=by omega
 rw[if_pos pl] at e1;rw[if_neg hl,if_pos pl,if_neg hl];unfold I8;rw[if_neg h0];unfold Ep GM Q9;rw[if_pos pl,if_pos p0,e1,show ah b 0=ah b i by rw[p0]];clear a1 a2 e1 e2 e3 e4;grind
open Go.RowKit Go.Shelf
theorem Tz {n K:Nat} (h:n<4294967296^K):ag n≤(4*K+2)/3:=jd (by
 rw[qU];have e:4294967296^K=2^(32*K):=by rw[Nat.pow_mul]
 rw[e] at h;exact yK h (Nat.pow_le_pow_right (by decide) (by omega)))
theorem M0 {q:Rat} {K:Nat} (h:bQ q K):ag q.num.natAbs≤(4*K+2)/3∧ag q.den≤(4*K+2)/3:=⟨Tz h.1,Tz h.2⟩
theorem nW (v:Value) (x:Rat) (K M:Nat) (w:World) (hv:ExqAt w w.heap.size v x K) (hK:K≤300000) (hx:bQ x M):Calls Tryz.prog 148 #[v] w (eD w x ((4*M+2)/3)) :=
 (Ci v x K w hv hK).mono fun _ _ h=>LS h (M0 hx).1 (M0 hx).2
theorem NK {b:BeamT} (h:BeamOk b) {i:Nat} (hi:i<b.sup.length):bQ (Zx b i) 50647:=by
 have h1:=h.sup1;unfold Zx;split
 ·exact aI (dC h) (by decide)
 exact aI (tN h (b.sup.length-1-i) (by omega)) (by omega)
theorem LI {b:BeamT} (h:BeamOk b) (hz:∀i,1 ≤ i→i + 1 < b.sup.length→bK b i ≠ 0):∀i,i + 1 < b.sup.length→bQ (jA b i).1 5200 ∧ bQ (jA b i).2 38
 | 0,_=>⟨aI (dC h) (by decide),aI (K:=1) (bI (n:=0) (by decide) (yA _)) (by decide)⟩
 | i+1,hi=>by
  have h1:=h.sup1;obtain⟨-,h2,h3⟩:=LH b hz i (by omega);rw[h2,h3];exact⟨aI (eY (mZ h (i:=i+1) (by omega) (by omega)) (nU h (i+1) (by omega) (by omega)) (iR h (i+1) (by omega) (by omega))) (by omega),aI (eY (mZ h (i:=i+1) (by omega) (by omega)) (jR h (i:=i+2) (by omega) (by omega)) (iR h (i+1) (by omega) (by omega))) (by omega)⟩
