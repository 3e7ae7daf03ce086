/- Lemmas. -/
import Derived.Test.YtmmhehgajkaniaaGreatDoorZ13
namespace Go.Proofs.YtmmhehgajkaniaaGreatDoor
set_option maxRecDepth 100000
set_option maxHeartbeats 40000000
open Go.RowKit Go.Shelf
theorem G5 (v:Value) (b:BeamT) (a:Int) (w:World) (hv:BeamAt w w.heap.size v b) (hb:BeamOk b) (DG:0≤a) (On:a≤b.len):Calls Tryz.prog 115 #[v,.int .i64 a] w (MakesE (dX b a) w):=by
 obtain⟨As,cs,Al,cl,rfl,hS,hL⟩:=hv;obtain⟨_,_,e,_,eG,pZ⟩:=hL.open_;injection e with e1 _ e2;subst e1 e2;have h2:=hb.loads1;have h3:=hb.even;have h5:=hb.len;unfold maxLen at eG;have zQ:=zh pZ;have Hb:=zh hb;obtain⟨Zb,h32⟩:=h3;obtain⟨h51,h52⟩:=h5;clear pZ hb hS hL;go_enter Tryz.func115,Tryz.ntmps115;go_wp2_with fail;have hI:=gb ((w.alloc (.cells (zC b As cs Al cl) 43)).alloc (.cells (zD false none 0 0 false none 0 0) 154)) 3 [b.even,a] (yU rfl)
 have de:((w.alloc (.cells (zC b As cs Al cl) 43)).alloc (.cells (zD false none 0 0 false none 0 0) 154)).heap.size=w.heap.size+1+1:=by simp
 rw[de] at hI;refine (fQ 1000 _ [b.even,a] _ hI (yU rfl) (fun x hx=>?_) (by decide) (by decide)).mono ?_
 ·simp at hx;omega
 rintro e w1 ⟨lB,v1,rfl,lG⟩;obtain⟨m1,B1,k1,d1,m2,B2,k2,d2,rfl,-,-⟩:=lG.form;have mW:=((yB _ ((w.alloc (.cells (zC b As cs Al cl) 43)).alloc (.cells (zD false none 0 0 false none 0 0) 154))).alloc (yA _) (.cells #[.int .i64 b.even,.int .i64 a] 3)).trans (lB.mono (by simp));rw[de] at mW;have aS:=zh (SumSt.start mW lG);have q3:=aS.o.bm.cell 3;simp only[aG,aH,aD] at q3;have HH:Y0 (dW b a 0=Zu 1000 [b.even,a]):=rfl
 clear hI de lB lG mW;go_wp2_with fail;generalize w1.heap.size=Ds at*;rw[←HH.o] at aS;clear HH q3;go_loopw [16] (fun ix wr=>∃k:Nat,k≤b.loads.length∧ix=.int .i64 k∧Y0 (SumSt w wr (zC b As cs Al cl) Ds (dW b a k))) (fun ix _=>b.loads.length-(intOf ix).toNat)
 case atStart=>exact⟨0,yI _,rfl,aS⟩
 clear aS;obtain⟨k,hk,rfl,aS⟩:=hrel;have k0:(0:Int)≤(k:Int):=yE _;by_cases ay:k<b.loads.length
 ·have k1:(k:Int)<(b.loads.length:Int):=by omega
  obtain⟨b2,o2,rfl,ao,eG⟩:=zQ.o k ay;obtain⟨cB,dc⟩:=eG k ay;have cB:=(aS.o.bel.cell (p:=⟨b2,o2+k*2,none⟩) ao).trans cB;have dc:=(aS.o.bel.cell (p:=⟨b2,o2+k*2+1,none⟩) ao).trans dc;obtain⟨p1,p2,p3,p4⟩:=Hb.o.loads _ (yV ay);have jO:=zh (Zl (b:=b) (f:=eC a) (s:=Zu 1000 [b.even,a]) ay);have Pg:=zh (lj Hb.o DG On (YG ay));have et:=zh (aS.o.alloc (.cells #[.int .i64 b.loads[k].pos,.int .i64 b.loads[k].wt] 40))
  clear eG;generalize b.loads[k]=x at*;obtain⟨pos,wt⟩:=x;simp only at cB dc p1 p2 p3 p4 et;by_cases uv:pos<a
  ·have HT:Y0 (dW b a (k+1)=dW b a k+((wt:Int):Rat)):=by
    unfold Y0 dW;rw[jO.o];unfold eC;simp only[if_pos uv]
   have hd:decide (pos<a)=true:=yD uv;have Aw:Y0 (bQ ((wt:Int):Rat) 5):=vw (x:=⟨pos,wt⟩) ⟨p3,p4⟩;clear jO;go_wp2_with fail;obtain⟨mK,mM,mC,mI,mJ,mL,mB,mH,hB,hE⟩:=et.o.sum;obtain⟨y0,y1,y2,y3⟩:=hB.c4;have HE:=zh hE;have jN:=zh et.o.bel;have z:=Blk.new wr 40 #[.int .i64 pos,.int .i64 wt];obtain⟨z0,z1⟩:=z.c2;clear hB hE z cB dc;generalize wr.alloc (.cells #[.int .i64 pos,.int .i64 wt] 40)=W1 at*;have u0:=YL y0
   have u1:=YL y1;have u2:=YL y2;have u3:=YL y3;have u4:=YL z0;have u5:=YL z1;clear y0 y1 y2 y3 z0 z1;refine af 5 (fun i=>if i=3 then some (gE (((wt:Int):Rat))) else if i=4 then some (gE (dW b a k+((wt:Int):Rat))) else none) (by kernel_rfl) (by kernel_rfl) ?_;simp only[aM,aP,aN,aO];refine zw 3 ?_;simp only[aM,aP,aN,aO]
   repeat (go_big_quiet_step (fail))
   refine YE ?_;refine ae rfl rfl ?_ ?_
   ·intro w1 ak hk;have hb:=(jN.o).trans (ak.mono (jN.o).size);have hC:=MakesE.g (fP wt w1 (by omega) (by omega));exact zc hC
   rintro _ ⟨R8,RA,R4,R6,R7,R9,R3,R5,rfl⟩;simp only[Act.put,aC,aB,aA];refine ae rfl rfl ?_ ?_
   ·intro w1 ak hk;have hb:=(jN.o).trans (ak.mono (jN.o).size);have h27:ExactAt w1 (.agg (zD R8 RA R4 R6 R7 R9 R3 R5)) (((wt:Int):Rat)):=hk 27 (by decide);have hC:=MakesE.g (fl _ _ _ _ 245 5 w1 (HE.o.grow ak) h27 Pg.o Aw.o (by decide));exact zc hC
   rintro _ ⟨vqJ,vqL,vqF,vqH,vqI,vqK,vqE,vqG,rfl⟩;simp only[Act.put,aC,aB,aA];refine Zc ?_;intro w8 aJ hF;have h28:ExactAt w8 (.agg (zD vqJ vqL vqF vqH vqI vqK vqE vqG)) (dW b a k+((wt:Int):Rat)):=hF 28;have HL:=zh h28;have dt:=zh (et.o.grow aJ);obtain⟨_,_,_,_,_,_,_,_,h1,-⟩:=dt.o.sum;have q0:=h1.cell 0;have q1:=h1.cell 1;have q2:=h1.cell 2;have q3:=h1.cell 3;have f0:=h1.frozen 0;have f1:=h1.frozen 1
   have f2:=h1.frozen 2;have f3:=h1.frozen 3;simp only[aG,aH,aD] at q0 q1 q2 q3;rw[←HT.o] at HL;clear hF u0 u1 u2 u3 u4 u5 aJ h28 h1 HE jN et aS;go_wp2_with fail;have nP:=zh (dt.o.put HL.o);clear q0 q1 q2 q3 f0 f1 f2 f3 HL dt;go_roundw
   case rel=>exact⟨k+1,by omega,by go_num,nP⟩
   simp[intOf];omega
  have hd:decide (pos<a)=false:=yC uv;have HT:Y0 (dW b a (k+1)=dW b a k):=by
   unfold Y0 dW;rw[jO.o];unfold eC;simp only[if_neg uv]
  rw[←HT.o] at et;clear jO aS;go_wp2_with fail;go_roundw
  case rel=>exact⟨k+1,by omega,by go_num,et⟩
  simp[intOf];omega
 obtain rfl:k=b.loads.length:=by omega
 have et:=aS;obtain⟨mK,mM,mC,mI,mJ,mL,mB,mH,hB,hE⟩:=et.o.sum;obtain⟨y0,y1,y2,y3⟩:=hB.c4;have HE:=zh hE;have jN:=zh et.o.bel;have q0:=aS.o.res.cell 0;have q1:=aS.o.res.cell 1;have q2:=aS.o.res.cell 2;have q3:=aS.o.res.cell 3;have f0:=aS.o.res.frozen 0;have f1:=aS.o.res.frozen 1;have f2:=aS.o.res.frozen 2;have f3:=aS.o.res.frozen 3;simp only[aG,aH,aD] at q0 q1 q2 q3;clear hB hE;go_wp2_with fail;refine YF (v:=.agg (zD mK mM mC mI mJ mL mB mH)) (by simp[results,Tryz.results115,go_sem,q0,q1,q2,q3]) rfl ?_
 exact⟨bA jN.o (by omega) _ _ _ _,_,rfl,HE.o.stored aS.o.res _ _ _ _⟩
theorem vG (b:BeamT) {i:Nat} (hi:i<b.sup.length):(jw b)[i]?=some (Zx b i):=by
 unfold jw;rw[YC,List.getElem?_range hi];rfl
def nw (b:BeamT) (i:Nat):Nat→Option Rat:=fun j=>if j<i then some (nX b j) else none
theorem wR (b:BeamT) (i:Nat):nw b (i+1)=eh (nw b i) i (nX b i):=by
 funext j
 unfold nw eh;by_cases e:j=i
 ·subst e;rw[if_pos rfl,if_pos (Nat.lt_succ_self _)]
 rw[if_neg e];dsimp only
 by_cases h:j<i
 ·rw[if_pos h,if_pos (by omega)]
 rw[if_neg h,if_neg (by omega)]
theorem Nw (b:BeamT) {j:Nat} {q:Rat} (h:(cd b)[j]?=some q):nw b b.sup.length j=some q:=by
 unfold cd at h;rw[YC] at h
 cases hj:(List.range b.sup.length)[j]? with
 | none=>rw[hj] at h;cases h
 | some x=>
  rw[hj] at h;obtain⟨h1,h2⟩:=List.getElem?_eq_some_iff.1 hj;simp only[List.getElem_range] at h2;subst h2;unfold nw;rw[if_pos (by simpa using h1)];exact h
theorem wU (b:BeamT):(cd b).length=b.sup.length:=by simp[cd]
structure RcSt (w wr:World) (b:BeamT) (bx:Array Value) (gm go:Nat) (fo:Nat→Option Rat):Prop where
 bm:Blk wr w.heap.size 43 bx
 mom:ExRow wr gm b.sup.length (fun j=>(jw b)[j]?)
 o:ExRow wr go b.sup.length fo
 bel:Below w.heap.size w wr
 gm:gm<w.heap.size
 go:w.heap.size<go
section
variable {w wr w':World} {b:BeamT} {bx:Array Value} {gm go:Nat} {fo:Nat→Option Rat}
theorem RcSt.grow (h:RcSt w wr b bx gm go fo) (hb:Below wr.heap.size wr w'):RcSt w w' b bx gm go fo :=
 ⟨h.bm.below hb h.bm.lt,h.mom.grow hb,h.o.grow hb,h.bel.trans (hb.mono h.bel.size),h.gm,h.go⟩
theorem RcSt.alloc (h:RcSt w wr b bx gm go fo) (o:Obj):RcSt w (wr.alloc o) b bx gm go fo:=h.grow ((yB _ _).alloc (yA _) _)
theorem RcSt.put (h:RcSt w wr b bx gm go fo) {i:Nat} (hi:i<b.sup.length) {b1:Bool} {A1:Option Addr} {l1 c1:Nat} {b2:Bool} {A2:Option Addr} {l2 c2:Nat} {q:Rat} (hE:ExactAt wr (.agg (zD b1 A1 l1 c1 b2 A2 l2 c2)) q) :
  RcSt w ((((wr.setCell ⟨go,i*4,none⟩ (.bool b1)).setCell ⟨go,i*4+1,none⟩ (.slice A1 l1 c1)).setCell ⟨go,i*4+2,none⟩ (.bool b2)).setCell ⟨go,i*4+3,none⟩ (.slice A2 l2 c2)) b bx gm go (eh fo i q):=by
 obtain⟨cs,hg⟩:=h.o.blk;have h1:=h.gm;have h2:=h.go;exact⟨h.bm.far4o (Nat.ne_of_lt h2) _ _ _ _ _,h.mom.far hg (by omega) _ _ _ _ _,h.o.write hi hE,dH h.bel (YG h2) _ _ _ _ _,h1,h2⟩
end
def qqa (l:List Rat) (w:World) (e:Ending) (w':World):Prop:=Below w.heap.size w w'∧∃v,e=.returned v∧ExsAt w' v l
theorem VM (v u:Value) (b:BeamT) (w:World) (hv:BeamAt w w.heap.size v b) (hu:ExsAt w u (jw b)) (hb:BeamOk b):Calls Tryz.prog 65 #[v,u] w (qqa (cd b) w):=by
 obtain⟨As,cs,Al,cl,rfl,hS,hL⟩:=hv;obtain⟨gm,rfl,hM⟩:=hu;obtain⟨Mf,Yy⟩:=hb.sup1;obtain⟨_,_,e,_,_,u7⟩:=hS.open_;injection e with e1 _ e2;subst e1 e2;obtain⟨bs,os,rfl,gg,By⟩:=u7 0 Mf;obtain⟨_,_,e,_,eG,pZ⟩:=hL.open_;injection e with e1 _ e2;subst e1 e2;unfold maxLen at eG;have HV:Y0 (BeamAt w w.heap.size (.agg (zC b (some ⟨bs,os,none⟩) cs Al cl)) b):=⟨_,_,Al,cl,rfl,hS,hL⟩;have np:Y0 (∀j,j<b.sup.length→w.cell? ⟨bs,os+j,none⟩=some (.int .i64 (ah b j))):=fun j hj=>by
  have h:=By j hj;unfold ah;rw[yN,yM hj];exact h
 have zQ:=zh pZ;have Hb:=zh hb;have HbT:=zh (lK hb);rw[rN] at hM;rw[rN];have HM:=zh hM;have HD:=zh (Blk.new w 43 (zC b (some ⟨bs,os,none⟩) cs Al cl));have HB:=zh ((yB _ w).alloc (yA _) (.cells (zC b (some ⟨bs,os,none⟩) cs Al cl) 43));have hll:=hb.loads1;obtain⟨iE,Kn,qI,qH,tz⟩:=info_parts qG;have aZ:iE.bytes*b.sup.length≤281474976710656:=by rw[tz];omega
 clear hS hL hb u7 By pZ hM;go_enter Tryz.func65,Tryz.ntmps65;go_wp2_with (at_make;refine wpList_make_full _ rfl _ _ 105 rfl _ 154 iE (.agg (zD false none 0 0 false none 0 0)) 4 Tryz.underlying105 Kn qI qH .i64 .i64 _ _ b.sup.length rfl rfl rfl rfl aZ (by unfold maxLen;omega) (Nat.le_refl _) ?_;intro X4 xM pA;have Pk:=zh (HD.o.kept pA (by simp));have y0:=Pk.o.cell 0;have y1:=Pk.o.cell 1;have y2:=Pk.o.cell 2;have y3:=Pk.o.cell 3;simp only[aG,aH,aD] at y0 y1 y2 y3;have vxP:=zh xM;have vxV:=zh pA;clear xM pA)
 have Ww:Y0 (RcSt w X4 b (zC b (some ⟨bs,os,none⟩) cs Al cl) gm (w.heap.size+1) (nw b 0)):=by
  have de:(w.alloc (.cells (zC b (some ⟨bs,os,none⟩) cs Al cl) 43)).heap.size=w.heap.size+1:=by simp
  have t7:=(yB (w.alloc (.cells (zC b (some ⟨bs,os,none⟩) cs Al cl) 43)).heap.size (w.alloc (.cells (zC b (some ⟨bs,os,none⟩) cs Al cl) 43))).grown vxV.o (yA _) (fun k hk=>by cases hk);have kn:=ExRow.made vxP.o;have hb:=HB.o.trans (t7.mono HB.o.size);exact⟨Pk.o,(HM.o.grow ((yB _ w).alloc (yA _) _)).grow t7,by
   have h:=kn.weak (f':=nw b 0) (fun j q _ h=>by unfold nw at h;rw[if_neg (by omega)] at h;cases h);simpa using h,hb,HM.o.lt,by omega⟩
 have HGm:=zh HM.o.lt;clear HM Pk vxP vxV HD HB aZ Kn qI qH tz y0 y1 y2 y3;generalize w.heap.size+1=go at*;go_loopw [21] (fun ix wr=>∃i:Nat,i≤b.sup.length∧ix=.int .i64 i∧Y0 (RcSt w wr b (zC b (some ⟨bs,os,none⟩) cs Al cl) gm go (nw b i))) (fun ix _=>b.sup.length-(intOf ix).toNat)
 case atStart=>exact⟨0,yI _,rfl,Ww⟩
 clear Ww;obtain⟨i,him,rfl,HR⟩:=hrel;have k0:(0:Int)≤(i:Int):=yE _;have k01:(i:Int)≤10:=by omega
 by_cases ff:i<b.sup.length
 ·have k1:(i:Int)<(b.sup.length:Int):=by omega
  obtain⟨sq,hsq⟩:=zo (ah b i);have Xn:=zh hsq;have z1:=(HR.o.bel.cell (p:=⟨bs,os+i,none⟩) gg).trans (np.o i ff);have ts:=Hb.o.sup i ff;have tl:=Hb.o.len;rw[hsq] at z1 ts;clear hsq;obtain⟨ts1,ts2⟩:=ts;obtain⟨Pr,Pq⟩:=tl;obtain⟨y0,y1,y2,y3,y4⟩:=HR.o.bm.c5;go_wp2_with fail;refine (fP _ _ (by decide) (by decide)).mono ?_;rintro e w5 ⟨aR,v5,rfl,K5⟩;obtain⟨vwH,vwJ,vwD,vwF,vwG,vwI,vwC,vwE,rfl,-,-⟩:=K5.form
  have Ax:=zh K5;have pb:=zh (HR.o.grow aR);obtain⟨_,_,_,_,_,_,_,_,o0,o1,o2,o3,-⟩:=pb.o.o.read (i:=i) ff;have nO:=pb.o.o.frozen (i*4);have nN:=pb.o.o.frozen (i*4+1);have nM:=pb.o.o.frozen (i*4+2);have nL:=pb.o.o.frozen (i*4+3);have vp:=zh (pb.o.put (i:=i) ff Ax.o);have y3:=vp.o.bm.cell 3;simp only[aG,aH,aD] at y3;clear y0 y1 y2 y4 K5 aR HR z1;go_wp2_with fail;generalize ((((w5.setCell ⟨go,i*4,none⟩ (.bool vwH)).setCell ⟨go,i*4+1,none⟩ (.slice vwJ vwD vwF)).setCell ⟨go,i*4+2,none⟩ (.bool vwG)).setCell ⟨go,i*4+3,none⟩ (.slice vwI vwC vwE))=W6 at*
  clear pb Ax o0 o1 o2 o3 nO nN nM nL y3;obtain⟨wo,rfl⟩:∃wo:World,wo=W6:=⟨_,rfl⟩;have HR7:Y0 (RcSt w wo b (zC b (some ⟨bs,os,none⟩) cs Al cl) gm go (eh (nw b i) i (iN b sq 0))):=vp;clear vp;go_loopw [33] (fun kx wr=>∃k:Nat,k≤b.loads.length∧kx=.int .i64 k∧Y0 (RcSt w wr b (zC b (some ⟨bs,os,none⟩) cs Al cl) gm go (eh (nw b i) i (iN b sq k)))) (fun kx _=>b.loads.length-(intOf kx).toNat)
  case atStart=>exact⟨0,yI _,rfl,HR7⟩
  clear HR7;obtain⟨k,hk,rfl,HR⟩:=hrel;have kk0:(0:Int)≤(k:Int):=yE _;by_cases ay:k<b.loads.length
  ·have kk1:(k:Int)<(b.loads.length:Int):=by omega
   obtain⟨b2,o2,rfl,ao,vxt⟩:=zQ.o k ay;obtain⟨cB,dc⟩:=vxt k ay;have cB:=(HR.o.bel.cell (p:=⟨b2,o2+k*2,none⟩) ao).trans cB;have dc:=(HR.o.bel.cell (p:=⟨b2,o2+k*2+1,none⟩) ao).trans dc;obtain⟨p1,p2,p3,p4⟩:=Hb.o.loads _ (yV ay);have jO:=zh (Zl (b:=b) (f:=oH sq) (s:=((0:Int):Rat)) ay);have Pg:=zh (Bu Hb.o sq (YG ay));have et:=zh (HR.o.alloc (.cells #[.int .i64 b.loads[k].pos,.int .i64 b.loads[k].wt] 40))
   clear vxt;generalize b.loads[k]=x at*;obtain⟨pos,wt⟩:=x;simp only at cB dc p1 p2 p3 p4 et;by_cases uv:pos=sq
   ·have hd:(pos==sq)=true:=beq_iff_eq.2 uv;have HT:Y0 (iN b sq (k+1)=iN b sq k+((wt:Int):Rat)):=by
     unfold Y0 iN;rw[jO.o];unfold oH;simp only[if_pos uv]
    have Aw:Y0 (bQ ((wt:Int):Rat) 5):=vw (x:=⟨pos,wt⟩) ⟨p3,p4⟩;clear jO uv;go_wp2_with fail;have z:=Blk.new wr 40 #[.int .i64 pos,.int .i64 wt];have z2:=z.cell 0;have z3:=z.cell 1;simp only[aG,aH,aD] at z2 z3;clear z cB dc HR;generalize wr.alloc (.cells #[.int .i64 pos,.int .i64 wt] 40)=W7 at*;have WW:=YL z2;have uz1:=YL z3;clear z2 z3;obtain⟨kU,kW,kQ,kS,kT,kV,kP,kR,a0,a1,a2,a3,rZ⟩:=et.o.o.read (i:=i) (by omega)
    have sK:=zh (rZ _ (gx _ _ _));have wE:=YL a0;have wD:=YL a1;have wC:=YL a2;have wB:=YL a3;clear a0 a1 a2 a3 rZ;have bf:=zh et.o.bel;refine af 11 (fun jx=>if jx=8 then some (gE (((wt:Int):Rat))) else if jx=9 then some (gE (iN b sq k+((wt:Int):Rat))) else none) (by kernel_rfl) (by kernel_rfl) ?_;simp only[aM,aP,aN,aO];refine zw 8 ?_;simp only[aM,aP,aN,aO]
    repeat (go_big_quiet_step (fail))
    refine YE ?_;refine ae rfl rfl ?_ ?_
    ·intro w1 ak hk;have hb:=(bf.o).trans (ak.mono (bf.o).size);have hC:=MakesE.g (fP wt w1 (by omega) (by omega));exact zc hC
    rintro _ ⟨vqh,vqj,vqd,vqf,vqg,vqi,vqc,vqe,rfl⟩;simp only[Act.put,aC,aB,aA];refine ae rfl rfl ?_ ?_
    ·intro w1 ak hk;have hb:=(bf.o).trans (ak.mono (bf.o).size);have h49:ExactAt w1 (.agg (zD vqh vqj vqd vqf vqg vqi vqc vqe)) (((wt:Int):Rat)):=hk 49 zk;have hC:=MakesE.g (fl _ _ _ _ 245 5 w1 (sK.o.grow ak) h49 Pg.o Aw.o (by decide));exact zc hC
    rintro _ ⟨qqG,qqI,qqC,qqE,qqF,qqH,qqB,qqD,rfl⟩;simp only[Act.put,aC,aB,aA];refine zw 1 ?_;simp only[aM,aP,aN,aO]
    repeat (go_big_quiet_step (fail))
    refine YE ?_;refine Zc ?_;intro w8 aJ hF;have h50:ExactAt w8 (.agg (zD qqG qqI qqC qqE qqF qqH qqB qqD)) (iN b sq k+((wt:Int):Rat)):=hF 50;rw[←HT.o] at h50;have vxX:=zh h50;have lD:=zh (et.o.grow aJ);obtain⟨_,_,_,_,_,_,_,_,o0,o1,o2,o3,-⟩:=lD.o.o.read (i:=i) (by omega);have nO:=lD.o.o.frozen (i*4);have nN:=lD.o.o.frozen (i*4+1);have nM:=lD.o.o.frozen (i*4+2);have nL:=lD.o.o.frozen (i*4+3);clear hF h50 aJ et bf wE wD wC wB sK WW uz1
    go_wp2_with fail;have HRn:=zh (lD.o.put (i:=i) (by omega) vxX.o);rw[gy] at HRn;generalize ((((w8.setCell ⟨go,i*4,none⟩ (.bool qqG)).setCell ⟨go,i*4+1,none⟩ (.slice qqI qqC qqE)).setCell ⟨go,i*4+2,none⟩ (.bool qqF)).setCell ⟨go,i*4+3,none⟩ (.slice qqH qqB qqD))=W8 at*;clear lD vxX o0 o1 o2 o3 nO nN nM nL;go_roundw
    case rel=>exact⟨k+1,by omega,by go_num,HRn⟩
    simp[intOf];omega
   have hd:(pos==sq)=false:=zb uv;have HT:Y0 (iN b sq (k+1)=iN b sq k):=by
    unfold Y0 iN;rw[jO.o];unfold oH;simp only[if_neg uv]
   rw[←HT.o] at et;clear jO HR uv;go_wp2_with fail;go_roundw
   case rel=>exact⟨k+1,by omega,by go_num,et⟩
   simp[intOf];omega
  obtain rfl:k=b.loads.length:=by omega
  have lp:Y0 (RcSt w wr b (zC b (some ⟨bs,os,none⟩) cs Al cl) gm go (eh (nw b i) i (iL b i))):=by
   unfold Y0 iL;rw[Xn.o];exact HR.o
  have z1:=(lp.o.bel.cell (p:=⟨bs,os+i,none⟩) gg).trans (np.o i ff);rw[Xn.o] at z1;have kk2:decide ((b.loads.length:Int)<(b.loads.length:Int))=false:=yC (Int.lt_irrefl _);clear HR;obtain⟨W9,rfl⟩:∃W:World,W=wr:=⟨_,rfl⟩;by_cases h1:i+1<b.sup.length
  case' neg=>
   have hzn:((i:Int)==(b.sup.length:Int)-1)=true:=beq_iff_eq.2 (by omega);have hq1:decide ((i:Int)+1<(b.sup.length:Int))=false:=yC (by omega);have nF:Y0 (ju b i=gY b i):=if_neg h1
  case' pos=>
   have hzn:((i:Int)==(b.sup.length:Int)-1)=false:=zb (by omega);have hq1:decide ((i:Int)+1<(b.sup.length:Int))=true:=yD (by omega);have z2:=(lp.o.bel.cell (p:=⟨bs,os+(i+1),none⟩) gg).trans (np.o (i+1) (by omega));have t2:=Hb.o.inc i h1;have t3:=Hb.o.sup (i+1) h1;rw[Xn.o] at t2;have HLg:=kY Hb.o (i:=i) h1 true;rw[Xn.o] at HLg;have HLg:=zh HLg;have HMp:=zh (kk Hb.o (i:=i+1) h1);have HMj:=zh (kk Hb.o (i:=i) (by omega))
   have Aw:=zh (nZ Hb.o (i:=i) (by omega));have HSp:Y0 (∀c,c=ah b (i+1)→ju b i=gY b i+dN b sq c true+(Zx b (i+1)-Zx b i)/((c-sq:Int):Rat)):=fun c hc=>by
    unfold ju aX;rw[if_pos h1,Nat.add_sub_cancel,Xn.o,hc]
   obtain⟨sr,hsr⟩:=zo (ah b (i+1));have nF:=zh (HSp.o sr hsr.symm);rw[hsr] at t2 z2 HLg t3;have km:=np.o (i+1) (by omega);rw[hsr] at km;have HZ2:=zh km;clear HSp hsr km;obtain⟨t31,t32⟩:=t3;have i3:((i:Int)+1).toNat=i+1:=by omega
   have i6:(i:Int)+1<(b.sup.length:Int):=by omega
   have i9:(0:Int)≤(i:Int)+1:=by omega
   have v2:IntKind.i64.wrap ((i:Int)+1)=(i:Int)+1:=yF _ (by omega);have v4:IntKind.i64.wrap (sr-sq)=sr-sq:=yF _ (by omega)
  all_goals
   have HF3:=zh (nY Hb.o (i:=i) (by omega));have HF4:=zh (Eo Hb.o (i:=i) (by omega));obtain⟨y0,y1,y2,y3,y4⟩:=lp.o.bm.c5;by_cases h0:0<i
   case' neg=>
    have hH:((i:Int)==0)=true:=beq_iff_eq.2 (by omega);have hp0:¬(0:Int)<(i:Int):=by omega
    have D6:decide ((0:Int)<(i:Int))=false:=yC hp0;have iw:Y0 (gY b i=iL b i):=if_neg h0;go_wp2_with fail;clear y0 y1 y2 y3 y4
   case' pos=>
    have hH:((i:Int)==0)=false:=zb (by omega);have hp0:(0:Int)<(i:Int):=by omega
    have z0:=(lp.o.bel.cell (p:=⟨bs,os+(i-1),none⟩) gg).trans (np.o (i-1) (by omega));have t1:=Hb.o.inc (i-1) (by omega);have t0:=Hb.o.sup (i-1) (by omega);rw[show i-1+1=i by omega,Xn.o] at t1;have vvy:Y0 (ah b (i-1)=ah b (i-1)):=rfl;have HLf:=kY Hb.o (i:=i-1) (by omega) false;rw[show i-1+1=i by omega,Xn.o] at HLf;have HLf:=zh HLf;have Dt:=zh (kk Hb.o (i:=i-1) (by omega));have HMi:=zh (kk Hb.o (i:=i) (by omega))
    have HSp:Y0 (∀c,c=ah b (i-1)→gY b i=iL b i+dN b c sq false+(Zx b (i-1)-Zx b i)/((sq-c:Int):Rat)):=fun c hc=>by
     unfold gY aX;rw[if_pos h0,Xn.o,hc]
    obtain⟨sp,hsp⟩:=zo (ah b (i-1));have iw:=zh (HSp.o sp hsp.symm);rw[hsp] at t1 z0 HLf t0;clear HSp hsp vvy;obtain⟨t01,t02⟩:=t0;have i2:((i:Int)-1).toNat=i-1:=by omega
    have i4:(0:Int)≤(i:Int)-1:=by omega
    have i5:(i:Int)-1<(b.sup.length:Int):=by omega
    have v1:IntKind.i64.wrap ((i:Int)-1)=(i:Int)-1:=yF _ (by omega);have v3:IntKind.i64.wrap (sq-sp)=sq-sp:=yF _ (by omega);go_wp2_with fail;clear y0 y1 y2 y3 y4;obtain⟨kU,kW,kQ,kS,kT,kV,kP,kR,a0,a1,a2,a3,rZ⟩:=lp.o.o.read (i:=i) (by omega);have sK:=zh (rZ _ (gx _ _ _));have wE:=YL a0;have wD:=YL a1;have wC:=YL a2;have wB:=YL a3;clear a0 a1 a2 a3 rZ;obtain⟨qv,qw,qt,qu,pN,pO,pL,pM,c0,c1,c2,c3,FP⟩:=lp.o.mom.read (i:=(i-1)) (by omega)
    have GI:=zh (FP _ (vG b (by omega)));have Nf:=YL c0;have Ip:=YL c1;have Nc:=YL c2;have DU:=YL c3;clear c0 c1 c2 c3 FP;obtain⟨Qj,Ql,Pr,Qh,Qi,Qk,Pq,Qg,d0,d1,d2,d3,UT⟩:=lp.o.mom.read (i:=i) (by omega);have WH:=zh (UT _ (vG b (by omega)));have Qc:=YL d0;have Qb:=YL d1;have Qa:=YL d2;have PZ:=YL d3;clear d0 d1 d2 d3 UT;obtain⟨y0,y1,y2,y3,y4⟩:=lp.o.bm.c5;have XA:=YL y0;have X9:=YL y1;have X8:=YL y2;have X7:=YL y3
    have X6:=YL y4;clear y0 y1 y2 y3 y4;have bf:=zh lp.o.bel;refine af 28 (fun jx=>if jx=9 then some (gE (dN b sp sq false)) else if jx=10 then some (gE (iL b i+dN b sp sq false)) else if jx=20 then some (gE (Zx b (i-1)-Zx b i)) else if jx=24 then some (gE (((sq-sp:Int):Rat))) else if jx=25 then some (gE ((Zx b (i-1)-Zx b i)/((sq-sp:Int):Rat))) else if jx=26 then some (gE (iL b i+dN b sp sq false+(Zx b (i-1)-Zx b i)/((sq-sp:Int):Rat))) else none) (by kernel_rfl) (by kernel_rfl) ?_
    simp only[aM,aP,aN,aO];refine zw 9 ?_;simp only[aM,aP,aN,aO]
    repeat (go_big_quiet_step (fail))
    refine YE ?_;refine ae rfl rfl ?_ ?_
    ·intro w1 ak hk;have hb:=(bf.o).trans (ak.mono (bf.o).size);have hC:=MakesE.g (MD _ b sp sq false w1 ((HV.o.below hb (yA _)).mono hb.size) Hb.o (by omega) (by omega) (by omega));exact zc hC
    rintro _ ⟨qk9,vqb,qk5,qk7,qk8,vqa,qk4,qk6,rfl⟩;simp only[Act.put,aC,aB,aA];refine ae rfl rfl ?_ ?_
    ·intro w1 ak hk;have hb:=(bf.o).trans (ak.mono (bf.o).size);have h70:ExactAt w1 (.agg (zD qk9 vqb qk5 qk7 qk8 vqa qk4 qk6)) (dN b sp sq false):=hk 70 zk;have hC:=MakesE.g (fl _ _ _ _ 245 245 w1 (sK.o.grow ak) h70 (kN Hb.o i) HLf.o (by decide));exact zc hC
    rintro _ ⟨qk1,qk3,qkX,qkZ,qk0,qk2,qkW,qkY,rfl⟩;simp only[Act.put,aC,aB,aA];refine zw 9 ?_;simp only[aM,aP,aN,aO]
    repeat (go_big_quiet_step (fail))
    refine YE ?_;refine ae rfl rfl ?_ ?_
    ·intro w1 ak hk;have hb:=(bf.o).trans (ak.mono (bf.o).size);have hC:=MakesE.g (je _ _ _ _ 60000 60000 w1 (GI.o.grow ak) (WH.o.grow ak) Dt.o HMi.o (by decide));exact zc hC
    rintro _ ⟨qkT,qkV,qkP,qkR,qkS,qkU,qkO,qkQ,rfl⟩;simp only[Act.put,aC,aB,aA];refine zw 3 ?_;simp only[aM,aP,aN,aO]
    repeat (go_big_quiet_step (fail))
    refine YE ?_;refine ae rfl rfl ?_ ?_
    ·intro w1 ak hk;have hb:=(bf.o).trans (ak.mono (bf.o).size);have hC:=MakesE.g (fP (sq-sp) w1 (by omega) (by omega));exact zc hC
    rintro _ ⟨QQ,QS,QM,QO,QP,QR,QL,QN,rfl⟩;simp only[Act.put,aC,aB,aA];refine ae rfl rfl ?_ ?_
    ·intro w1 ak hk;have hb:=(bf.o).trans (ak.mono (bf.o).size);have h81:ExactAt w1 (.agg (zD qkT qkV qkP qkR qkS qkU qkO qkQ)) (Zx b (i-1)-Zx b i):=hk 81 zk;have h85:ExactAt w1 (.agg (zD QQ QS QM QO QP QR QL QN)) (((sq-sp:Int):Rat)):=hk 85 zk;have hC:=MakesE.g (MG _ _ _ _ 120001 1 w1 h81 h85 (dT (K:=60000) (M:=60000) Dt.o HMi.o) (bI (by rw[Nat.pow_one];omega) (yA _)) (by rw[Rat.num_intCast];omega) (by decide))
     exact zc hC
    rintro _ ⟨QI,QK,QE,QG,QH,QJ,QD,QF,rfl⟩;simp only[Act.put,aC,aB,aA];refine ae rfl rfl ?_ ?_
    ·intro w1 ak hk;have hb:=(bf.o).trans (ak.mono (bf.o).size);have h71:ExactAt w1 (.agg (zD qk1 qk3 qkX qkZ qk0 qk2 qkW qkY)) (iL b i+dN b sp sq false):=hk 71 zk;have h86:ExactAt w1 (.agg (zD QI QK QE QG QH QJ QD QF)) ((Zx b (i-1)-Zx b i)/((sq-sp:Int):Rat)):=hk 86 zk;have hC:=MakesE.g (fl _ _ _ _ (245+246) 120002 w1 h71 h86 (ij (kN Hb.o i) HLf.o) (eY (K:=120001) (M:=1) (by rw[Rat.num_intCast];omega) (dT (K:=60000) (M:=60000) Dt.o HMi.o) (bI (by rw[Nat.pow_one];omega) (yA _))) (by decide))
     exact zc hC
    rintro _ ⟨qqy,qqA,qqu,qqw,qqx,qqz,qqt,qqv,rfl⟩;simp only[Act.put,aC,aB,aA];refine zw 1 ?_;simp only[aM,aP,aN,aO]
    repeat (go_big_quiet_step (fail))
    refine YE ?_;refine Zc ?_;intro w8 aJ hF;have h87:ExactAt w8 (.agg (zD qqy qqA qqu qqw qqx qqz qqt qqv)) (iL b i+dN b sp sq false+(Zx b (i-1)-Zx b i)/((sq-sp:Int):Rat)):=hF 87;have vxW:=zh h87;have lD:=zh (lp.o.grow aJ);obtain⟨_,_,_,_,_,_,_,_,o0,o1,o2,o3,-⟩:=lD.o.o.read (i:=i) (by omega);have nO:=lD.o.o.frozen (i*4);have nN:=lD.o.o.frozen (i*4+1);have nM:=lD.o.o.frozen (i*4+2);have nL:=lD.o.o.frozen (i*4+3)
    clear hF h87 aJ lp bf wE wD wC wB sK Nf Ip Nc DU GI Qc Qb Qa PZ WH XA X9 X8 X7 X6;obtain⟨y0,y1,y2,y3,y4⟩:=lD.o.bm.c5
    try have z2:=(lD.o.bel.cell (p:=⟨bs,os+(i+1),none⟩) gg).trans HZ2.o
    have ng1:w.heap.size≠go:=Nat.ne_of_lt lD.o.go;have ng2:bs≠go:=by have:=lD.o.go;omega
    have ng3:go≠w.heap.size:=Ne.symm ng1;have ng4:go≠bs:=Ne.symm ng2;go_wp2_with fail;clear y0 y1 y2 y3 y4 ng1 ng2 ng3 ng4
    try clear z2
    have lp:=zh (lD.o.put (i:=i) (by omega) vxW.o);rw[gy] at lp;generalize ((((w8.setCell ⟨go,i*4,none⟩ (.bool qqy)).setCell ⟨go,i*4+1,none⟩ (.slice qqA qqu qqw)).setCell ⟨go,i*4+2,none⟩ (.bool qqx)).setCell ⟨go,i*4+3,none⟩ (.slice qqz qqt qqv))=W9 at*;clear lD vxW o0 o1 o2 o3 nO nN nM nL
   all_goals rw[←iw.o] at lp
  all_goals
   by_cases hs:i+1<b.sup.length
   case' neg=>
    try exact absurd h1 hs
    all_goals
     rw[←nF.o] at lp
   case' pos=>
    try exact absurd hs h1
    all_goals
     obtain⟨kU,kW,kQ,kS,kT,kV,kP,kR,a0,a1,a2,a3,rZ⟩:=lp.o.o.read (i:=i) (by omega);have sK:=zh (rZ _ (gx _ _ _));have wE:=YL a0;have wD:=YL a1;have wC:=YL a2;have wB:=YL a3;clear a0 a1 a2 a3 rZ;obtain⟨qv,qw,qt,qu,pN,pO,pL,pM,c0,c1,c2,c3,FP⟩:=lp.o.mom.read (i:=(i+1)) (by omega);have GI:=zh (FP _ (vG b (by omega)));have Nf:=YL c0;have Ip:=YL c1;have Nc:=YL c2;have DU:=YL c3;clear c0 c1 c2 c3 FP;obtain⟨Qj,Ql,Pr,Qh,Qi,Qk,Pq,Qg,d0,d1,d2,d3,UT⟩:=lp.o.mom.read (i:=i) (by omega)
     have WH:=zh (UT _ (vG b (by omega)));have Qc:=YL d0;have Qb:=YL d1;have Qa:=YL d2;have PZ:=YL d3;clear d0 d1 d2 d3 UT;obtain⟨y0,y1,y2,y3,y4⟩:=lp.o.bm.c5;have XA:=YL y0;have X9:=YL y1;have X8:=YL y2;have X7:=YL y3;have X6:=YL y4;clear y0 y1 y2 y3 y4;have bf:=zh lp.o.bel;refine af 28 (fun jx=>if jx=9 then some (gE (dN b sq sr true)) else if jx=10 then some (gE (gY b i+dN b sq sr true)) else if jx=20 then some (gE (Zx b (i+1)-Zx b i)) else if jx=24 then some (gE (((sr-sq:Int):Rat))) else if jx=25 then some (gE ((Zx b (i+1)-Zx b i)/((sr-sq:Int):Rat))) else if jx=26 then some (gE (gY b i+dN b sq sr true+(Zx b (i+1)-Zx b i)/((sr-sq:Int):Rat))) else none) (by kernel_rfl) (by kernel_rfl) ?_
     simp only[aM,aP,aN,aO];refine zw 9 ?_;simp only[aM,aP,aN,aO]
     repeat (go_big_quiet_step (fail))
     refine YE ?_;refine ae rfl rfl ?_ ?_
     ·intro w1 ak hk;have hb:=(bf.o).trans (ak.mono (bf.o).size);have hC:=MakesE.g (MD _ b sq sr true w1 ((HV.o.below hb (yA _)).mono hb.size) Hb.o (by omega) (by omega) (by omega));exact zc hC
     rintro _ ⟨JU,JW,JO,JR,JS,JV,JN,JQ,rfl⟩;simp only[Act.put,aC,aB,aA];refine ae rfl rfl ?_ ?_
     ·intro w1 ak hk;have hb:=(bf.o).trans (ak.mono (bf.o).size);have vwx:ExactAt w1 (.agg (zD JU JW JO JR JS JV JN JQ)) (dN b sq sr true):=hk 108 zk;have hC:=MakesE.g (fl _ _ _ _ 121000 245 w1 (sK.o.grow ak) vwx Aw.o HLg.o (by decide));exact zc hC
     rintro _ ⟨JK,JM,JG,JI,JJ,JL,JF,JH,rfl⟩;simp only[Act.put,aC,aB,aA];refine zw 9 ?_;simp only[aM,aP,aN,aO]
     repeat (go_big_quiet_step (fail))
     refine YE ?_;refine ae rfl rfl ?_ ?_
     ·intro w1 ak hk;have hb:=(bf.o).trans (ak.mono (bf.o).size);have hC:=MakesE.g (je _ _ _ _ 60000 60000 w1 (GI.o.grow ak) (WH.o.grow ak) HMp.o HMj.o (by decide));exact zc hC
     rintro _ ⟨qvm,qvo,qvi,qvk,qvl,qvn,qvh,qvj,rfl⟩;simp only[Act.put,aC,aB,aA];refine zw 3 ?_;simp only[aM,aP,aN,aO]
     repeat (go_big_quiet_step (fail))
     refine YE ?_;refine ae rfl rfl ?_ ?_
     ·intro w1 ak hk;have hb:=(bf.o).trans (ak.mono (bf.o).size);have hC:=MakesE.g (fP (sr-sq) w1 (by omega) (by omega));exact zc hC
     rintro _ ⟨qz6,qz8,qz2,qz4,qz5,qz7,qz1,qz3,rfl⟩;simp only[Act.put,aC,aB,aA];refine ae rfl rfl ?_ ?_
     ·intro w1 ak hk;have hb:=(bf.o).trans (ak.mono (bf.o).size);have vvc:ExactAt w1 (.agg (zD qvm qvo qvi qvk qvl qvn qvh qvj)) (Zx b (i+1)-Zx b i):=hk 119 zk;have vva:ExactAt w1 (.agg (zD qz6 qz8 qz2 qz4 qz5 qz7 qz1 qz3)) (((sr-sq:Int):Rat)):=hk 123 zk;have hC:=MakesE.g (MG _ _ _ _ 120001 1 w1 vvc vva (dT (K:=60000) (M:=60000) HMp.o HMj.o) (bI (by rw[Nat.pow_one];omega) (yA _)) (by rw[Rat.num_intCast];omega) (by decide))
      exact zc hC
     rintro _ ⟨qzY,qz0,qzU,qzW,qzX,qzZ,qzT,qzV,rfl⟩;simp only[Act.put,aC,aB,aA];refine ae rfl rfl ?_ ?_
     ·intro w1 ak hk;have hb:=(bf.o).trans (ak.mono (bf.o).size);have vww:ExactAt w1 (.agg (zD JK JM JG JI JJ JL JF JH)) (gY b i+dN b sq sr true):=hk 109 zk;have vz9:ExactAt w1 (.agg (zD qzY qz0 qzU qzW qzX qzZ qzT qzV)) ((Zx b (i+1)-Zx b i)/((sr-sq:Int):Rat)):=hk 124 zk;have hC:=MakesE.g (fl _ _ _ _ (121000+246) 120002 w1 vww vz9 (ij Aw.o HLg.o) (eY (K:=120001) (M:=1) (by rw[Rat.num_intCast];omega) (dT (K:=60000) (M:=60000) HMp.o HMj.o) (bI (by rw[Nat.pow_one];omega) (yA _))) (by decide))
      exact zc hC
     rintro _ ⟨Tq,Ts,Tl,Tn,Tp,Tr,Tk,Tm,rfl⟩;simp only[Act.put,aC,aB,aA];refine zw 1 ?_;simp only[aM,aP,aN,aO]
     repeat (go_big_quiet_step (fail))
     refine YE ?_;refine Zc ?_;intro w8 aJ hF;have Zk:ExactAt w8 (.agg (zD Tq Ts Tl Tn Tp Tr Tk Tm)) (gY b i+dN b sq sr true+(Zx b (i+1)-Zx b i)/((sr-sq:Int):Rat)):=hF 125;have qjP:=zh Zk;have lD:=zh (lp.o.grow aJ);obtain⟨_,_,_,_,_,_,_,_,o0,o1,o2,o3,-⟩:=lD.o.o.read (i:=i) (by omega);have nO:=lD.o.o.frozen (i*4);have nN:=lD.o.o.frozen (i*4+1);have nM:=lD.o.o.frozen (i*4+2);have nL:=lD.o.o.frozen (i*4+3)
     clear hF Zk aJ lp bf wE wD wC wB sK Nf Ip Nc DU GI Qc Qb Qa PZ WH XA X9 X8 X7 X6;go_wp2_with fail;have lp:=zh (lD.o.put (i:=i) (by omega) qjP.o);rw[gy] at lp;generalize ((((w8.setCell ⟨go,i*4,none⟩ (.bool Tq)).setCell ⟨go,i*4+1,none⟩ (.slice Ts Tl Tn)).setCell ⟨go,i*4+2,none⟩ (.bool Tp)).setCell ⟨go,i*4+3,none⟩ (.slice Tr Tk Tm))=W9 at*;clear lD qjP o0 o1 o2 o3 nO nN nM nL;rw[←nF.o] at lp
  all_goals
   by_cases hs:0<i
   case' neg=>
    try exact absurd h0 hs
    all_goals
     obtain⟨kU,kW,kQ,kS,kT,kV,kP,kR,a0,a1,a2,a3,rZ⟩:=lp.o.o.read (i:=i) (by omega);have sK:=zh (rZ _ (gx _ _ _));have wE:=YL a0;have wD:=YL a1;have wC:=YL a2;have wB:=YL a3;clear a0 a1 a2 a3 rZ;obtain⟨y0,y1,y2,y3,y4⟩:=lp.o.bm.c5;have XA:=YL y0;have X9:=YL y1;have X8:=YL y2;have X7:=YL y3;have X6:=YL y4;clear y0 y1 y2 y3 y4;have bf:=zh lp.o.bel;refine af 11 (fun jx=>if jx=8 then some (gE (dX b sq)) else if jx=9 then some (gE (ju b i+dX b sq)) else none) (by kernel_rfl) (by kernel_rfl) ?_
     simp only[aM,aP,aN,aO];refine zw 8 ?_;simp only[aM,aP,aN,aO]
     repeat (go_big_quiet_step (fail))
     refine YE ?_;refine ae rfl rfl ?_ ?_
     ·intro w1 ak hk;have hb:=(bf.o).trans (ak.mono (bf.o).size);have hC:=MakesE.g (G5 _ b sq w1 ((HV.o.below hb (yA _)).mono hb.size) Hb.o (by omega) (by omega));exact zc hC
     rintro _ ⟨qzk,qzm,qzg,qzi,qzj,qzl,qzf,qzh,rfl⟩;simp only[Act.put,aC,aB,aA];refine ae rfl rfl ?_ ?_
     ·intro w1 ak hk;have hb:=(bf.o).trans (ak.mono (bf.o).size);have vz5:ExactAt w1 (.agg (zD qzk qzm qzg qzi qzj qzl qzf qzh)) (dX b sq):=hk 137 zk;have hC:=MakesE.g (fl _ _ _ _ 242000 245 w1 (sK.o.grow ak) vz5 HF3.o (lj Hb.o (by omega) (by omega) (yA _)) (by decide));exact zc hC
     rintro _ ⟨SY,Ta,SS,SV,SX,SZ,SR,SU,rfl⟩;simp only[Act.put,aC,aB,aA];refine zw 1 ?_;simp only[aM,aP,aN,aO]
     repeat (go_big_quiet_step (fail))
     refine YE ?_;refine Zc ?_;intro w8 aJ hF;have vxG:ExactAt w8 (.agg (zD SY Ta SS SV SX SZ SR SU)) (ju b i+dX b sq):=hF 138;have qjM:=zh vxG;have lD:=zh (lp.o.grow aJ);obtain⟨_,_,_,_,_,_,_,_,o0,o1,o2,o3,-⟩:=lD.o.o.read (i:=i) (by omega);have nO:=lD.o.o.frozen (i*4);have nN:=lD.o.o.frozen (i*4+1);have nM:=lD.o.o.frozen (i*4+2);have nL:=lD.o.o.frozen (i*4+3);clear hF vxG aJ lp bf wE wD wC wB sK XA X9 X8 X7 X6
     go_wp2_with fail;have lp:=zh (lD.o.put (i:=i) (by omega) qjM.o);rw[gy] at lp;generalize ((((w8.setCell ⟨go,i*4,none⟩ (.bool SY)).setCell ⟨go,i*4+1,none⟩ (.slice Ta SS SV)).setCell ⟨go,i*4+2,none⟩ (.bool SX)).setCell ⟨go,i*4+3,none⟩ (.slice SZ SR SU))=W9 at*;clear lD qjM o0 o1 o2 o3 nO nN nM nL;have gP:Y0 (jt b i=ju b i+dX b sq):=by unfold Y0 jt;rw[if_pos (by omega),Xn.o]
     rw[←gP.o] at lp
   case' pos=>
    try exact absurd hs h0
    all_goals
     have gP:Y0 (jt b i=ju b i):=if_neg (by omega);rw[←gP.o] at lp
  all_goals
   by_cases hs:i+1<b.sup.length
   case' neg=>
    try exact absurd h1 hs
    all_goals
     obtain⟨kU,kW,kQ,kS,kT,kV,kP,kR,a0,a1,a2,a3,rZ⟩:=lp.o.o.read (i:=i) (by omega);have sK:=zh (rZ _ (gx _ _ _));have wE:=YL a0;have wD:=YL a1;have wC:=YL a2;have wB:=YL a3;clear a0 a1 a2 a3 rZ;obtain⟨y0,y1,y2,y3,y4⟩:=lp.o.bm.c5;have XA:=YL y0;have X9:=YL y1;have X8:=YL y2;have X7:=YL y3;have X6:=YL y4;clear y0 y1 y2 y3 y4;have bf:=zh lp.o.bel;refine af 15 (fun jx=>if jx=7 then some (gB (al b)) else if jx=12 then some (gE (dX (al b) (b.len-sq))) else if jx=13 then some (gE (jt b i+dX (al b) (b.len-sq))) else none) (by kernel_rfl) (by kernel_rfl) ?_
     simp only[aM,aP,aN,aO];refine zw 7 ?_;simp only[aM,aP,aN,aO]
     repeat (go_big_quiet_step (fail))
     refine YE ?_;refine ae rfl rfl ?_ ?_
     ·intro w1 ak hk;have hb:=(bf.o).trans (ak.mono (bf.o).size);have hC:=TurnedPost.g (G3 _ b w1 ((HV.o.below hb (yA _)).mono hb.size) Hb.o);exact zc hC
     rintro _ ⟨tAs,tcs,tAl,tcl,rfl⟩;simp only[Act.put,aC,aB,aA];refine zw 4 ?_;simp only[aM,aP,aN,aO]
     repeat (go_big_quiet_step (fail))
     refine YE ?_;refine ae rfl rfl ?_ ?_
     ·intro w1 ak hk;have hb:=(bf.o).trans (ak.mono (bf.o).size);have vz2:BeamAt w1 w1.heap.size (.agg (zC (al b) tAs tcs tAl tcl)) (al b):=hk 151 zk;have hC:=MakesE.g (G5 _ (al b) (b.len-sq) w1 vz2 HbT.o (by omega) (by show b.len-sq≤b.len;omega));exact zc hC
     rintro _ ⟨qxW,qxY,qxS,qxU,qxV,qxX,qxR,qxT,rfl⟩;simp only[Act.put,aC,aB,aA];refine ae rfl rfl ?_ ?_
     ·intro w1 ak hk;have hb:=(bf.o).trans (ak.mono (bf.o).size);have vz1:ExactAt w1 (.agg (zD qxW qxY qxS qxU qxV qxX qxR qxT)) (dX (al b) (b.len-sq)):=hk 156 zk;have hC:=MakesE.g (fl _ _ _ _ 242300 245 w1 (sK.o.grow ak) vz1 HF4.o (lj HbT.o (by omega) (by show b.len-sq≤b.len;omega) (yA _)) (by decide));exact zc hC
     rintro _ ⟨SE,SG,SA,SC,SD,SF,S9,SB,rfl⟩;simp only[Act.put,aC,aB,aA];refine zw 1 ?_;simp only[aM,aP,aN,aO]
     repeat (go_big_quiet_step (fail))
     refine YE ?_;refine Zc ?_;intro w8 aJ hF;have Zd:ExactAt w8 (.agg (zD SE SG SA SC SD SF S9 SB)) (jt b i+dX (al b) (b.len-sq)):=hF 157;have qjI:=zh Zd;have lD:=zh (lp.o.grow aJ);obtain⟨_,_,_,_,_,_,_,_,o0,o1,o2,o3,-⟩:=lD.o.o.read (i:=i) (by omega);have nO:=lD.o.o.frozen (i*4);have nN:=lD.o.o.frozen (i*4+1);have nM:=lD.o.o.frozen (i*4+2);have nL:=lD.o.o.frozen (i*4+3);clear hF Zd aJ lp bf wE wD wC wB sK XA X9 X8 X7 X6
     go_wp2_with fail;have lp:=zh (lD.o.put (i:=i) (by omega) qjI.o);rw[gy] at lp;generalize ((((w8.setCell ⟨go,i*4,none⟩ (.bool SE)).setCell ⟨go,i*4+1,none⟩ (.slice SG SA SC)).setCell ⟨go,i*4+2,none⟩ (.bool SD)).setCell ⟨go,i*4+3,none⟩ (.slice SF S9 SB))=W9 at*;clear lD qjI o0 o1 o2 o3 nO nN nM nL;have dY:Y0 (nX b i=jt b i+dX (al b) (b.len-sq)):=by unfold Y0 nX;rw[if_pos (by omega),Xn.o]
     rw[←dY.o,←wR] at lp
   case' pos=>
    try exact absurd hs h1
    all_goals
     have dY:Y0 (nX b i=jt b i):=if_neg (by omega);rw[←dY.o,←wR] at lp
  all_goals
   go_roundw
   case rel=>exact⟨i+1,by omega,by go_num,lp⟩
   simp[intOf];omega
 obtain rfl:i=b.sup.length:=by omega
 have HX:=zh (HR.o.o.weak fun j q _ h=>Nw b h);have HBl:=zh HR.o.bel;clear HR;go_wp2_with fail;go_ret;exact⟨HBl.o,.slice (some ⟨go,0,none⟩) b.sup.length b.sup.length,rfl,go,by rw[wU],by rw[wU];exact HX.o⟩
