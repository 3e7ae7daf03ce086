/- Lemmas. -/
import Derived.Test.YtmmhehgajkaniaaGreatDoorZ5
namespace Go.Proofs.YtmmhehgajkaniaaGreatDoor
set_option maxRecDepth 100000
set_option maxHeartbeats 40000000
open Go.RowKit Go.Shelf
theorem Iy {x y:Int} (h1:x.natAbs≤4611686018427387904) (h2:y.natAbs≤4611686018427387904):∀z∈[x,y],z.natAbs≤4611686018427387904:=fun z hz=>by
 simp at hz;rcases hz with rfl|rfl
 ·exact h1
 exact h2
theorem Qo {x y z:Int} (h1:x.natAbs≤4611686018427387904) (h2:y.natAbs≤4611686018427387904) (h3:z.natAbs≤4611686018427387904):∀u∈[x,y,z],u.natAbs≤4611686018427387904:=fun u hu=>by
 simp at hu;rcases hu with rfl|rfl|rfl
 ·exact h1
 ·exact h2
 exact h3
theorem VO (v:Value) (b:BeamT) (w:World) (hv:BeamAt w w.heap.size v b) (hb:BeamOk b):Calls Tryz.prog 151 #[v] w (MakesE (bu b) w):=by
 obtain⟨As,cs,Al,cl,rfl,hS,hL⟩:=hv;obtain⟨_,_,e,_,jJ,u7⟩:=hS.open_;injection e with e1 _ e2;subst e1 e2;obtain⟨_,_,e,_,eG,pZ⟩:=hL.open_;injection e with e1 _ e2;subst e1 e2;have h1:=hb.sup1;have h2:=hb.loads1;have h3:=hb.even;have h4:=hb.sup 0 h1.1;have h5:=hb.len;unfold maxLen at jJ eG;have UQ:=u7 0 h1.1;obtain⟨b1,o1,rfl,ak,UQ⟩:=UQ;have UQ:=UQ 0 h1.1;have e0:b.sup[0]'h1.1=ah b 0:=by unfold ah;rw[List.getD_eq_getElem?_getD,List.getElem?_eq_getElem h1.1];rfl
 rw[e0,Nat.add_zero] at UQ;have zQ:=zh pZ;have Hb:=zh hb;have s0:(0:Int)<(b.sup.length:Int):=by omega
 generalize hsa:ah b 0=a at*;have HA:=zh hsa;obtain⟨h41,h42⟩:=h4;obtain⟨Zb,h32⟩:=h3;obtain⟨h51,h52⟩:=h5;clear pZ u7 hb hS hL e0 hsa h1;have UQ:=UQ;go_enter Tryz.func151,Tryz.ntmps151;go_wp2_with fail;have hI:=gb ((w.alloc (.cells (zC b (some ⟨b1,o1,none⟩) cs Al cl) 43)).alloc (.cells (zD false none 0 0 false none 0 0) 154)) 3 [b.even,a,a] (yU rfl);have de:((w.alloc (.cells (zC b (some ⟨b1,o1,none⟩) cs Al cl) 43)).alloc (.cells (zD false none 0 0 false none 0 0) 154)).heap.size=w.heap.size+1+1:=by simp
 rw[de] at hI;refine (fQ 2000 _ [b.even,a,a] _ hI (yU rfl) (fun x hx=>?_) (by decide) (by decide)).mono ?_
 ·simp at hx;omega
 rintro e w1 ⟨lB,v1,rfl,lG⟩;obtain⟨m1,B1,k1,d1,m2,B2,k2,d2,rfl,-,-⟩:=lG.form;have mW:=((yB _ ((w.alloc (.cells (zC b (some ⟨b1,o1,none⟩) cs Al cl) 43)).alloc (.cells (zD false none 0 0 false none 0 0) 154))).alloc (yA _) (.cells #[.int .i64 b.even,.int .i64 a,.int .i64 a] 3)).trans (lB.mono (by simp));rw[de] at mW;have aS:=zh (SumSt.start mW lG);have q3:=aS.o.bm.cell 3;simp only[aG,aH,aD] at q3;have HH:Y0 (iP b 0=Zu 2000 [b.even,a,a]):=by unfold Y0 iP;rw[HA.o];rfl
 clear hI de lB lG mW;go_wp2_with fail;generalize w1.heap.size=Ds at*;rw[←HH.o] at aS;clear HH q3;go_loopw [20] (fun ix wr=>∃k:Nat,k≤b.loads.length∧ix=.int .i64 k∧Y0 (SumSt w wr (zC b (some ⟨b1,o1,none⟩) cs Al cl) Ds (iP b k))) (fun ix _=>b.loads.length-(intOf ix).toNat)
 case atStart=>exact⟨0,yI _,rfl,aS⟩
 clear aS;obtain⟨k,hk,rfl,aS⟩:=hrel;have k0:(0:Int)≤(k:Int):=yE _;by_cases ay:k<b.loads.length
 ·have k1:(k:Int)<(b.loads.length:Int):=by omega
  obtain⟨b2,o2,rfl,ao,eG⟩:=zQ.o k ay;obtain⟨cB,dc⟩:=eG k ay;have cB:=(aS.o.bel.cell (p:=⟨b2,o2+k*2,none⟩) ao).trans cB;have dc:=(aS.o.bel.cell (p:=⟨b2,o2+k*2+1,none⟩) ao).trans dc;obtain⟨p1,p2,p3,p4⟩:=Hb.o.loads _ (yV ay);have jO:=zh (Zl (b:=b) (f:=rY (ah b 0)) (s:=Zu 2000 [b.even,ah b 0,ah b 0]) ay);have Pg:=zh (tA Hb.o (YG ay));have et:=zh (aS.o.alloc (.cells #[.int .i64 b.loads[k].pos,.int .i64 b.loads[k].wt] 40))
  clear eG;generalize b.loads[k]=x at*;obtain⟨pos,wt⟩:=x;simp only at cB dc p1 p2 p3 p4 et;by_cases uv:pos<a
  ·have hd:decide (pos<a)=true:=yD uv;have HT:Y0 (iP b (k+1)=iP b k+Zu 1 [wt,a-pos]):=by
    unfold Y0 iP;rw[jO.o];unfold rY;rw[HA.o];simp only[if_pos uv]
   have Aw:Y0 (bQ (Zu 1 [wt,a-pos]) 5):=uE (by decide) (by decide) (by omega) (by omega);clear jO;go_wp2_with fail;obtain⟨mK,mM,mC,mI,mJ,mL,mB,mH,hB,hE⟩:=et.o.sum;obtain⟨y0,y1,y2,y3⟩:=hB.c4;have z:=Blk.new wr 40 #[.int .i64 pos,.int .i64 wt];obtain⟨z0,z1⟩:=z.c2;have HE:=zh hE;have jN:=zh et.o.bel;have kZ:(a-pos).natAbs≤4611686018427387904:=by omega
   have jT:wt.natAbs≤4611686018427387904:=by omega
   clear hB hE z cB dc;generalize wr.alloc (.cells #[.int .i64 pos,.int .i64 wt] 40)=W1 at*;have u0:=YL y0;have u1:=YL y1;have u2:=YL y2;have u3:=YL y3;have u4:=YL z0;have u5:=YL z1;clear y0 y1 y2 y3 z0 z1;refine af 10 (fun i=>if i=7 then some (gI [wt,a-pos]) else if i=8 then some (gE (Zu 1 [wt,a-pos])) else if i=9 then some (gE (iP b k+Zu 1 [wt,a-pos])) else none) (by kernel_rfl) (by kernel_rfl) ?_
   simp only[aM,aP,aN,aO];refine zw 7 ?_;simp only[aM,aP,aN,aO]
   repeat (go_big_quiet_step (fail))
   refine YE ?_;refine aV rfl rfl (fun w1 ak _=>fG (T:=3) (l:=[wt,a-pos]) (yU rfl) (by go_simp)) ?_;rintro _ ⟨g35,rfl⟩;simp only[Act.put,aC,aB,aA];refine ae rfl rfl ?_ ?_
   ·intro w1 ak hk;have hb:=(jN.o).trans (ak.mono (jN.o).size);have h35:bg w1 w1.heap.size (.slice (some ⟨g35,0,none⟩) 2 2) [wt,a-pos]:=hk 35 (by decide);have hC:=MakesE.g (fQ 1 _ [wt,a-pos] w1 h35 (yU rfl) (Iy jT kZ) (by decide) (by decide));exact zc hC
   rintro _ ⟨EA,EC,E5,E7,E8,EB,E0,E6,rfl⟩;simp only[Act.put,aC,aB,aA];refine ae rfl rfl ?_ ?_
   ·intro w1 ak hk;have hb:=(jN.o).trans (ak.mono (jN.o).size);have h36:ExactAt w1 (.agg (zD EA EC E5 E7 E8 EB E0 E6)) (Zu 1 [wt,a-pos]):=hk 36 (by decide);have hC:=MakesE.g (fl _ _ _ _ 245 5 w1 (HE.o.grow ak) h36 Pg.o Aw.o (by decide));exact zc hC
   rintro _ ⟨Ex,Ez,Et,Ev,Ew,Ey,Es,Eu,rfl⟩;simp only[Act.put,aC,aB,aA];refine Zc ?_;intro w8 aJ hF;have h37:ExactAt w8 (.agg (zD Ex Ez Et Ev Ew Ey Es Eu)) (iP b k+Zu 1 [wt,a-pos]):=hF 37;have HL:=zh h37;have dt:=zh (et.o.grow aJ);obtain⟨_,_,_,_,_,_,_,_,h1,-⟩:=dt.o.sum;have q0:=h1.cell 0;have q1:=h1.cell 1;have q2:=h1.cell 2;have q3:=h1.cell 3;have f0:=h1.frozen 0;have f1:=h1.frozen 1;have f2:=h1.frozen 2
   have f3:=h1.frozen 3;simp only[aG,aH,aD] at q0 q1 q2 q3;rw[←HT.o] at HL;clear hF u0 u1 u2 u3 u4 u5 aJ h37 h1 HE jN et aS;go_wp2_with fail;have nP:=zh (dt.o.put HL.o);clear q0 q1 q2 q3 f0 f1 f2 f3 HL dt;go_roundw
   case rel=>exact⟨k+1,by omega,by go_num,nP⟩
   simp[intOf];omega
  have hd:decide (pos<a)=false:=yC uv;have HT:Y0 (iP b (k+1)=iP b k):=by
   unfold Y0 iP;rw[jO.o];unfold rY;rw[HA.o];simp only[if_neg uv]
  rw[←HT.o] at et;clear jO aS;go_wp2_with fail;go_roundw
  case rel=>exact⟨k+1,by omega,by go_num,et⟩
  simp[intOf];omega
 obtain rfl:k=b.loads.length:=by omega
 obtain⟨mK,mM,mC,mI,mJ,mL,mB,mH,hB,hE⟩:=aS.o.sum;obtain⟨y0,y1,y2,y3⟩:=hB.c4;have HE:=zh hE;have jN:=zh aS.o.bel;have Pg:=zh (tA Hb.o (yA _));have et:=aS;clear hB hE aS;go_wp2_with fail;have u0:=YL y0;have u1:=YL y1;have u2:=YL y2;have u3:=YL y3;clear y0 y1 y2 y3;refine af 3 (fun i=>if i=0 then some (gE (((0:Int):Rat))) else if i=2 then some (gE (bu b)) else none) (by kernel_rfl) (by kernel_rfl) ?_
 simp only[aM,aP,aN,aO];refine ae rfl rfl ?_ ?_
 ·intro w1 ak hk;have hb:=(jN.o).trans (ak.mono (jN.o).size);have hC:=MakesE.g (fP 0 w1 (by decide) (by decide));exact zc hC
 rintro _ ⟨vqp,vqr,vql,vqn,vqo,vqq,vqk,vqm,rfl⟩;simp only[Act.put,aC,aB,aA];refine zw 1 ?_;simp only[aM,aP,aN,aO]
 repeat (go_big_quiet_step (fail))
 refine YE ?_;refine ae rfl rfl ?_ ?_
 ·intro w1 ak hk;have hb:=(jN.o).trans (ak.mono (jN.o).size);have h39:ExactAt w1 (.agg (zD vqp vqr vql vqn vqo vqq vqk vqm)) (((0:Int):Rat)):=hk 39 (by decide);have hC:=MakesE.g (je _ _ _ _ 1 245 w1 h39 (HE.o.grow ak) (bI (by decide) (yA _)) Pg.o (by decide));exact zc hC
 rintro _ ⟨qqO,qqQ,qqK,qqM,qqN,qqP,qqJ,qqL,rfl⟩;simp only[Act.put,aC,aB,aA];refine Zc ?_;intro w8 aJ hF;have h41:ExactAt w8 (.agg (zD qqO qqQ qqK qqM qqN qqP qqJ qqL)) (bu b):=hF 41;have HL:=zh h41;have bj:=zh (et.o.res.below aJ et.o.res.lt);have ep:=zh (jN.o.trans (aJ.mono jN.o.size));have q0:=bj.o.cell 0;have q1:=bj.o.cell 1;have q2:=bj.o.cell 2;have q3:=bj.o.cell 3;have f0:=bj.o.frozen 0;have f1:=bj.o.frozen 1
 have f2:=bj.o.frozen 2;have f3:=bj.o.frozen 3;simp only[aG,aH,aD] at q0 q1 q2 q3;clear hF u0 u1 u2 u3 h41 aJ HE jN et;go_wp2_with fail;refine YF (v:=.agg (zD qqO qqQ qqK qqM qqN qqP qqJ qqL)) (by simp[results,Tryz.results151,go_sem,q0,q1,q2,q3]) rfl ?_;exact⟨bA ep.o (by omega) _ _ _ _,_,rfl,HL.o.stored bj.o _ _ _ _⟩
theorem MD (v:Value) (b:BeamT) (lo hi:Int) (left:Bool) (w:World) (hv:BeamAt w w.heap.size v b) (hb:BeamOk b) (DG:0≤lo) (On:lo<hi) (Xg:hi≤b.len):Calls Tryz.prog 112 #[v,.int .i64 lo,.int .i64 hi,.bool left] w (MakesE (dN b lo hi left) w):=by
 obtain⟨As,cs,Al,cl,rfl,hS,hL⟩:=hv;obtain⟨_,_,e,_,eG,pZ⟩:=hL.open_;injection e with e1 _ e2;subst e1 e2;have h2:=hb.loads1;have h3:=hb.even;have h5:=hb.len;unfold maxLen at eG;have zQ:=zh pZ;have Hb:=zh hb;obtain⟨Zb,h32⟩:=h3;obtain⟨h51,h52⟩:=h5;clear pZ hb hS hL;go_enter Tryz.func112,Tryz.ntmps112;go_wp2_with fail;have hI:=gb ((w.alloc (.cells (zC b As cs Al cl) 43)).alloc (.cells (zD false none 0 0 false none 0 0) 154)) 3 [b.even,hi-lo] (yU rfl)
 have de:((w.alloc (.cells (zC b As cs Al cl) 43)).alloc (.cells (zD false none 0 0 false none 0 0) 154)).heap.size=w.heap.size+1+1:=by simp
 rw[de] at hI;refine (fQ 2000 _ [b.even,hi-lo] _ hI (yU rfl) (fun x hx=>?_) (by decide) (by decide)).mono ?_
 ·simp at hx;omega
 rintro e w1 ⟨lB,v1,rfl,lG⟩;obtain⟨m1,B1,k1,d1,m2,B2,k2,d2,rfl,-,-⟩:=lG.form;have mW:=((yB _ ((w.alloc (.cells (zC b As cs Al cl) 43)).alloc (.cells (zD false none 0 0 false none 0 0) 154))).alloc (yA _) (.cells #[.int .i64 b.even,.int .i64 (hi-lo)] 3)).trans (lB.mono (by simp));rw[de] at mW;have aS:=zh (SumSt.start mW lG);have q3:=aS.o.bm.cell 3;simp only[aG,aH,aD] at q3;have HH:Y0 (cQ b lo hi left 0=Zu 2000 [b.even,hi-lo]):=rfl
 clear hI de lB lG mW;go_wp2_with fail;generalize w1.heap.size=Ds at*;rw[←HH.o] at aS;clear HH q3;go_loopw [23] (fun ix wr=>∃k:Nat,k≤b.loads.length∧ix=.int .i64 k∧Y0 (SumSt w wr (zC b As cs Al cl) Ds (cQ b lo hi left k))) (fun ix _=>b.loads.length-(intOf ix).toNat)
 case atStart=>exact⟨0,yI _,rfl,aS⟩
 clear aS;obtain⟨k,hk,rfl,aS⟩:=hrel;have k0:(0:Int)≤(k:Int):=yE _;by_cases ay:k<b.loads.length
 ·have k1:(k:Int)<(b.loads.length:Int):=by omega
  obtain⟨b2,o2,rfl,ao,eG⟩:=zQ.o k ay;obtain⟨cB,dc⟩:=eG k ay;have cB:=(aS.o.bel.cell (p:=⟨b2,o2+k*2,none⟩) ao).trans cB;have dc:=(aS.o.bel.cell (p:=⟨b2,o2+k*2+1,none⟩) ao).trans dc;obtain⟨p1,p2,p3,p4⟩:=Hb.o.loads _ (yV ay);have jO:=zh (Zl (b:=b) (f:=gp lo hi left) (s:=Zu 2000 [b.even,hi-lo]) ay);have Pg:=zh (xC Hb.o DG On Xg left (YG ay));have et:=zh (aS.o.alloc (.cells #[.int .i64 b.loads[k].pos,.int .i64 b.loads[k].wt] 40))
  clear eG;generalize b.loads[k]=x at*;obtain⟨pos,wt⟩:=x;simp only at cB dc p1 p2 p3 p4 et;by_cases D6:pos≤lo
  ·have hd:decide (pos≤lo)=true:=yD D6;have HT:Y0 (cQ b lo hi left (k+1)=cQ b lo hi left k):=by
    unfold Y0 cQ;rw[jO.o];unfold gp;simp only[if_pos (Or.inl D6)]
   rw[←HT.o] at et;clear jO aS;go_wp2_with fail;go_roundw
   case rel=>exact⟨k+1,by omega,by go_num,et⟩
   simp[intOf];omega
  have hd:decide (pos≤lo)=false:=yC D6;by_cases Pv:hi≤pos
  ·have nH:decide (hi≤pos)=true:=yD Pv;have HT:Y0 (cQ b lo hi left (k+1)=cQ b lo hi left k):=by
    unfold Y0 cQ;rw[jO.o];unfold gp;simp only[if_pos (Or.inr Pv)]
   rw[←HT.o] at et;clear jO aS;go_wp2_with fail;go_roundw
   case rel=>exact⟨k+1,by omega,by go_num,et⟩
   simp[intOf];omega
  have nH:decide (hi≤pos)=false:=yC Pv;have ky:¬(pos≤lo∨hi≤pos):=fun h=>h.elim D6 Pv;cases left
  ·have HT:Y0 (cQ b lo hi false (k+1)=cQ b lo hi false k+Zu (hi-lo) [wt,pos-lo]):=by
    unfold Y0 cQ;rw[jO.o];unfold gp;simp only[if_neg ky,Bool.false_eq_true,if_false]
   have Aw:Y0 (bQ (Zu (hi-lo) [wt,pos-lo]) 5):=uE (by omega) (by omega) (by omega) (by omega);clear jO;go_wp2_with fail;obtain⟨mK,mM,mC,mI,mJ,mL,mB,mH,hB,hE⟩:=et.o.sum;obtain⟨y0,y1,y2,y3⟩:=hB.c4;have HE:=zh hE;have jN:=zh et.o.bel;have z:=Blk.new wr 40 #[.int .i64 pos,.int .i64 wt];obtain⟨z0,z1⟩:=z.c2;clear hB hE z cB dc;generalize wr.alloc (.cells #[.int .i64 pos,.int .i64 wt] 40)=W1 at*;have u0:=YL y0
   have u1:=YL y1;have u2:=YL y2;have u3:=YL y3;have u4:=YL z0;have u5:=YL z1;clear y0 y1 y2 y3 z0 z1;have kZ:(pos-lo).natAbs≤4611686018427387904:=by omega
   have jT:wt.natAbs≤4611686018427387904:=by omega
   refine af 10 (fun i=>if i=7 then some (gI [wt,pos-lo]) else if i=8 then some (gE (Zu (hi-lo) [wt,pos-lo])) else if i=9 then some (gE (cQ b lo hi false k+Zu (hi-lo) [wt,pos-lo])) else none) (by kernel_rfl) (by kernel_rfl) ?_;simp only[aM,aP,aN,aO];refine zw 7 ?_;simp only[aM,aP,aN,aO]
   repeat (go_big_quiet_step (fail))
   refine YE ?_;refine aV rfl rfl (fun w1 ak _=>fG (T:=3) (l:=[wt,pos-lo]) (yU rfl) (by go_simp)) ?_;rintro _ ⟨g54,rfl⟩;simp only[Act.put,aC,aB,aA];refine ae rfl rfl ?_ ?_
   ·intro w1 ak hk;have hb:=(jN.o).trans (ak.mono (jN.o).size);have h54:bg w1 w1.heap.size (.slice (some ⟨g54,0,none⟩) 2 2) [wt,pos-lo]:=hk 54 (by decide);have hC:=MakesE.g (fQ (hi-lo) _ [wt,pos-lo] w1 h54 (yU rfl) (Iy jT kZ) (by omega) (by omega));exact zc hC
   rintro _ ⟨Ry,R0,Ru,Rw,Rx,Rz,Rt,Rv,rfl⟩;simp only[Act.put,aC,aB,aA];refine ae rfl rfl ?_ ?_
   ·intro w1 ak hk;have hb:=(jN.o).trans (ak.mono (jN.o).size);have h55:ExactAt w1 (.agg (zD Ry R0 Ru Rw Rx Rz Rt Rv)) (Zu (hi-lo) [wt,pos-lo]):=hk 55 (by decide);have hC:=MakesE.g (fl _ _ _ _ 245 5 w1 (HE.o.grow ak) h55 Pg.o Aw.o (by decide));exact zc hC
   rintro _ ⟨Rq,Rs,Rm,Ro,Rp,Rr,Rl,Rn,rfl⟩;simp only[Act.put,aC,aB,aA];refine Zc ?_;intro w8 aJ hF;have Oq:ExactAt w8 (.agg (zD Rq Rs Rm Ro Rp Rr Rl Rn)) (cQ b lo hi false k+Zu (hi-lo) [wt,pos-lo]):=hF 56;have HL:=zh Oq;have dt:=zh (et.o.grow aJ);obtain⟨_,_,_,_,_,_,_,_,h1,-⟩:=dt.o.sum;have q0:=h1.cell 0;have q1:=h1.cell 1;have q2:=h1.cell 2;have q3:=h1.cell 3;have f0:=h1.frozen 0;have f1:=h1.frozen 1
   have f2:=h1.frozen 2;have f3:=h1.frozen 3;simp only[aG,aH,aD] at q0 q1 q2 q3;rw[←HT.o] at HL;clear hF u0 u1 u2 u3 u4 u5 aJ Oq h1 HE jN et aS;go_wp2_with fail;have nP:=zh (dt.o.put HL.o);clear q0 q1 q2 q3 f0 f1 f2 f3 HL dt;go_roundw
   case rel=>exact⟨k+1,by omega,by go_num,nP⟩
   simp[intOf];omega
  have HT:Y0 (cQ b lo hi true (k+1)=cQ b lo hi true k+Zu (hi-lo) [wt,hi-pos]):=by
   unfold Y0 cQ;rw[jO.o];unfold gp;simp only[if_neg ky,if_true]
  have Aw:Y0 (bQ (Zu (hi-lo) [wt,hi-pos]) 5):=uE (by omega) (by omega) (by omega) (by omega);clear jO;go_wp2_with fail;obtain⟨mK,mM,mC,mI,mJ,mL,mB,mH,hB,hE⟩:=et.o.sum;obtain⟨y0,y1,y2,y3⟩:=hB.c4;have HE:=zh hE;have jN:=zh et.o.bel;have z:=Blk.new wr 40 #[.int .i64 pos,.int .i64 wt];obtain⟨z0,z1⟩:=z.c2;clear hB hE z cB dc;generalize wr.alloc (.cells #[.int .i64 pos,.int .i64 wt] 40)=W1 at*;have u0:=YL y0
  have u1:=YL y1;have u2:=YL y2;have u3:=YL y3;have u4:=YL z0;have u5:=YL z1;clear y0 y1 y2 y3 z0 z1;have kZ:(hi-pos).natAbs≤4611686018427387904:=by omega
  have jT:wt.natAbs≤4611686018427387904:=by omega
  refine af 10 (fun i=>if i=7 then some (gI [wt,hi-pos]) else if i=8 then some (gE (Zu (hi-lo) [wt,hi-pos])) else if i=9 then some (gE (cQ b lo hi true k+Zu (hi-lo) [wt,hi-pos])) else none) (by kernel_rfl) (by kernel_rfl) ?_;simp only[aM,aP,aN,aO];refine zw 7 ?_;simp only[aM,aP,aN,aO]
  repeat (go_big_quiet_step (fail))
  refine YE ?_;refine aV rfl rfl (fun w1 ak _=>fG (T:=3) (l:=[wt,hi-pos]) (yU rfl) (by go_simp)) ?_;rintro _ ⟨g54,rfl⟩;simp only[Act.put,aC,aB,aA];refine ae rfl rfl ?_ ?_
  ·intro w1 ak hk;have hb:=(jN.o).trans (ak.mono (jN.o).size);have h54:bg w1 w1.heap.size (.slice (some ⟨g54,0,none⟩) 2 2) [wt,hi-pos]:=hk 54 (by decide);have hC:=MakesE.g (fQ (hi-lo) _ [wt,hi-pos] w1 h54 (yU rfl) (Iy jT kZ) (by omega) (by omega));exact zc hC
  rintro _ ⟨Ry,R0,Ru,Rw,Rx,Rz,Rt,Rv,rfl⟩;simp only[Act.put,aC,aB,aA];refine ae rfl rfl ?_ ?_
  ·intro w1 ak hk;have hb:=(jN.o).trans (ak.mono (jN.o).size);have h55:ExactAt w1 (.agg (zD Ry R0 Ru Rw Rx Rz Rt Rv)) (Zu (hi-lo) [wt,hi-pos]):=hk 55 (by decide);have hC:=MakesE.g (fl _ _ _ _ 245 5 w1 (HE.o.grow ak) h55 Pg.o Aw.o (by decide));exact zc hC
  rintro _ ⟨Rq,Rs,Rm,Ro,Rp,Rr,Rl,Rn,rfl⟩;simp only[Act.put,aC,aB,aA];refine Zc ?_;intro w8 aJ hF;have Oq:ExactAt w8 (.agg (zD Rq Rs Rm Ro Rp Rr Rl Rn)) (cQ b lo hi true k+Zu (hi-lo) [wt,hi-pos]):=hF 56;have HL:=zh Oq;have dt:=zh (et.o.grow aJ);obtain⟨_,_,_,_,_,_,_,_,h1,-⟩:=dt.o.sum;have q0:=h1.cell 0;have q1:=h1.cell 1;have q2:=h1.cell 2;have q3:=h1.cell 3;have f0:=h1.frozen 0;have f1:=h1.frozen 1
  have f2:=h1.frozen 2;have f3:=h1.frozen 3;simp only[aG,aH,aD] at q0 q1 q2 q3;rw[←HT.o] at HL;clear hF u0 u1 u2 u3 u4 u5 aJ Oq h1 HE jN et aS;go_wp2_with fail;have nP:=zh (dt.o.put HL.o);clear q0 q1 q2 q3 f0 f1 f2 f3 HL dt;go_roundw
  case rel=>exact⟨k+1,by omega,by go_num,nP⟩
  simp[intOf];omega
 obtain rfl:k=b.loads.length:=by omega
 have et:=aS;obtain⟨mK,mM,mC,mI,mJ,mL,mB,mH,hB,hE⟩:=et.o.sum;obtain⟨y0,y1,y2,y3⟩:=hB.c4;have HE:=zh hE;have jN:=zh et.o.bel;have q0:=aS.o.res.cell 0;have q1:=aS.o.res.cell 1;have q2:=aS.o.res.cell 2;have q3:=aS.o.res.cell 3;have f0:=aS.o.res.frozen 0;have f1:=aS.o.res.frozen 1;have f2:=aS.o.res.frozen 2;have f3:=aS.o.res.frozen 3;simp only[aG,aH,aD] at q0 q1 q2 q3;clear hB hE;go_wp2_with fail;refine YF (v:=.agg (zD mK mM mC mI mJ mL mB mH)) (by simp[results,Tryz.results112,go_sem,q0,q1,q2,q3]) rfl ?_
 exact⟨bA jN.o (by omega) _ _ _ _,_,rfl,HE.o.stored aS.o.res _ _ _ _⟩
theorem VL (v:Value) (b:BeamT) (lo hi:Int) (left:Bool) (w:World) (hv:BeamAt w w.heap.size v b) (hb:BeamOk b) (DG:0≤lo) (On:lo<hi) (Xg:hi≤b.len):Calls Tryz.prog 153 #[v,.int .i64 lo,.int .i64 hi,.bool left] w (MakesE (cH b lo hi left) w):=by
 obtain⟨As,cs,Al,cl,rfl,hS,hL⟩:=hv;obtain⟨_,_,e,_,eG,pZ⟩:=hL.open_;injection e with e1 _ e2;subst e1 e2;have h2:=hb.loads1;have h3:=hb.even;have h5:=hb.len;unfold maxLen at eG;have zQ:=zh pZ;have Hb:=zh hb;obtain⟨Zb,h32⟩:=h3;obtain⟨h51,h52⟩:=h5;clear pZ hb hS hL;go_enter Tryz.func153,Tryz.ntmps153;go_wp2_with fail;have hI:=gb ((w.alloc (.cells (zC b As cs Al cl) 43)).alloc (.cells (zD false none 0 0 false none 0 0) 154)) 3 [b.even,hi-lo,hi-lo,hi-lo] (yU rfl)
 have de:((w.alloc (.cells (zC b As cs Al cl) 43)).alloc (.cells (zD false none 0 0 false none 0 0) 154)).heap.size=w.heap.size+1+1:=by simp
 rw[de] at hI;refine (fQ 4000 _ [b.even,hi-lo,hi-lo,hi-lo] _ hI (yU rfl) (fun x hx=>?_) (by decide) (by decide)).mono ?_
 ·simp at hx;omega
 rintro e w1 ⟨lB,v1,rfl,lG⟩;obtain⟨m1,B1,k1,d1,m2,B2,k2,d2,rfl,-,-⟩:=lG.form;have mW:=((yB _ ((w.alloc (.cells (zC b As cs Al cl) 43)).alloc (.cells (zD false none 0 0 false none 0 0) 154))).alloc (yA _) (.cells #[.int .i64 b.even,.int .i64 (hi-lo),.int .i64 (hi-lo),.int .i64 (hi-lo)] 3)).trans (lB.mono (by simp));rw[de] at mW;have aS:=zh (SumSt.start mW lG);have q3:=aS.o.bm.cell 3;simp only[aG,aH,aD] at q3
 have HH:Y0 (bZ b lo hi left 0=Zu 4000 [b.even,hi-lo,hi-lo,hi-lo]):=rfl;clear hI de lB lG mW;go_wp2_with fail;generalize w1.heap.size=Ds at*;rw[←HH.o] at aS;clear HH q3;go_loopw [27] (fun ix wr=>∃k:Nat,k≤b.loads.length∧ix=.int .i64 k∧Y0 (SumSt w wr (zC b As cs Al cl) Ds (bZ b lo hi left k))) (fun ix _=>b.loads.length-(intOf ix).toNat)
 case atStart=>exact⟨0,yI _,rfl,aS⟩
 clear aS;obtain⟨k,hk,rfl,aS⟩:=hrel;have k0:(0:Int)≤(k:Int):=yE _;by_cases ay:k<b.loads.length
 ·have k1:(k:Int)<(b.loads.length:Int):=by omega
  obtain⟨b2,o2,rfl,ao,eG⟩:=zQ.o k ay;obtain⟨cB,dc⟩:=eG k ay;have cB:=(aS.o.bel.cell (p:=⟨b2,o2+k*2,none⟩) ao).trans cB;have dc:=(aS.o.bel.cell (p:=⟨b2,o2+k*2+1,none⟩) ao).trans dc;obtain⟨p1,p2,p3,p4⟩:=Hb.o.loads _ (yV ay);have jO:=zh (Zl (b:=b) (f:=pX lo hi left) (s:=Zu 4000 [b.even,hi-lo,hi-lo,hi-lo]) ay);have Pg:=zh (AK Hb.o DG On Xg left (YG ay));have et:=zh (aS.o.alloc (.cells #[.int .i64 b.loads[k].pos,.int .i64 b.loads[k].wt] 40))
  clear eG;generalize b.loads[k]=x at*;obtain⟨pos,wt⟩:=x;simp only at cB dc p1 p2 p3 p4 et;by_cases D6:pos≤lo
  ·have hd:decide (pos≤lo)=true:=yD D6;have HT:Y0 (bZ b lo hi left (k+1)=bZ b lo hi left k):=by
    unfold Y0 bZ;rw[jO.o];unfold pX;simp only[if_pos (Or.inl D6)]
   rw[←HT.o] at et;clear jO aS;go_wp2_with fail;go_roundw
   case rel=>exact⟨k+1,by omega,by go_num,et⟩
   simp[intOf];omega
  have hd:decide (pos≤lo)=false:=yC D6;by_cases Pv:hi≤pos
  ·have nH:decide (hi≤pos)=true:=yD Pv;have HT:Y0 (bZ b lo hi left (k+1)=bZ b lo hi left k):=by
    unfold Y0 bZ;rw[jO.o];unfold pX;simp only[if_pos (Or.inr Pv)]
   rw[←HT.o] at et;clear jO aS;go_wp2_with fail;go_roundw
   case rel=>exact⟨k+1,by omega,by go_num,et⟩
   simp[intOf];omega
  have nH:decide (hi≤pos)=false:=yC Pv;have ky:¬(pos≤lo∨hi≤pos):=fun h=>h.elim D6 Pv;cases left
  ·have HT:Y0 (bZ b lo hi false (k+1)=bZ b lo hi false k+Zu (hi-lo) [wt,hi-pos,(hi-lo)*(hi-lo)-(hi-pos)*(hi-pos)]):=by
    unfold Y0 bZ;rw[jO.o];unfold pX;simp only[if_neg ky,Bool.false_eq_true,if_false]
   have Aw:Y0 (bQ (Zu (hi-lo) [wt,hi-pos,(hi-lo)*(hi-lo)-(hi-pos)*(hi-pos)]) 5):=Gd (by omega) (by omega) (by omega) (by omega) (Cc (by omega) (by omega) (by omega));clear jO;go_wp2_with fail;obtain⟨mK,mM,mC,mI,mJ,mL,mB,mH,hB,hE⟩:=et.o.sum;obtain⟨y0,y1,y2,y3⟩:=hB.c4;have HE:=zh hE;have jN:=zh et.o.bel;have z:=Blk.new wr 40 #[.int .i64 pos,.int .i64 wt];obtain⟨z0,z1⟩:=z.c2;clear hB hE z cB dc;generalize wr.alloc (.cells #[.int .i64 pos,.int .i64 wt] 40)=W1 at*
   have u0:=YL y0;have u1:=YL y1;have u2:=YL y2;have u3:=YL y3;have u4:=YL z0;have u5:=YL z1;clear y0 y1 y2 y3 z0 z1;have jT:wt.natAbs≤4611686018427387904:=by omega
   have kZ:(hi-pos).natAbs≤4611686018427387904:=by omega
   have Mf:0≤(hi-lo)*(hi-lo):=Int.mul_nonneg (by omega) (by omega);have Yy:(hi-lo)*(hi-lo)≤1048576*1048576:=Int.mul_le_mul (by omega) (by omega) (by omega) (by omega);have hm3:0≤(hi-pos)*(hi-pos):=Int.mul_nonneg (by omega) (by omega);have hm4:(hi-pos)*(hi-pos)≤1048576*1048576:=Int.mul_le_mul (by omega) (by omega) (by omega) (by omega);have C6:((hi-lo)*(hi-lo)-(hi-pos)*(hi-pos)).natAbs≤4611686018427387904:=by omega
   refine af 15 (fun i=>if i=12 then some (gI [wt,hi-pos,(hi-lo)*(hi-lo)-(hi-pos)*(hi-pos)]) else if i=13 then some (gE (Zu (hi-lo) [wt,hi-pos,(hi-lo)*(hi-lo)-(hi-pos)*(hi-pos)])) else if i=14 then some (gE (bZ b lo hi false k+Zu (hi-lo) [wt,hi-pos,(hi-lo)*(hi-lo)-(hi-pos)*(hi-pos)])) else none) (by kernel_rfl) (by kernel_rfl) ?_;simp only[aM,aP,aN,aO];refine zw 12 ?_;simp only[aM,aP,aN,aO]
   repeat (go_big_quiet_step (fail))
   refine YE ?_;refine aV rfl rfl (fun w1 ak _=>fG (T:=3) (l:=[wt,hi-pos,(hi-lo)*(hi-lo)-(hi-pos)*(hi-pos)]) (yU rfl) (by go_simp)) ?_;rintro _ ⟨g63,rfl⟩;simp only[Act.put,aC,aB,aA];refine ae rfl rfl ?_ ?_
   ·intro w1 ak hk;have hb:=(jN.o).trans (ak.mono (jN.o).size);have UX:bg w1 w1.heap.size (.slice (some ⟨g63,0,none⟩) 3 3) [wt,hi-pos,(hi-lo)*(hi-lo)-(hi-pos)*(hi-pos)]:=hk 63 (by decide);have hC:=MakesE.g (fQ (hi-lo) _ [wt,hi-pos,(hi-lo)*(hi-lo)-(hi-pos)*(hi-pos)] w1 UX (yU rfl) (Qo jT kZ C6) (by omega) (by omega));exact zc hC
   rintro _ ⟨Ri,Rk,Rc,Rf,Rh,Rj,Rb,Re,rfl⟩;simp only[Act.put,aC,aB,aA];refine ae rfl rfl ?_ ?_
   ·intro w1 ak hk;have hb:=(jN.o).trans (ak.mono (jN.o).size);have h64:ExactAt w1 (.agg (zD Ri Rk Rc Rf Rh Rj Rb Re)) (Zu (hi-lo) [wt,hi-pos,(hi-lo)*(hi-lo)-(hi-pos)*(hi-pos)]):=hk 64 (by decide);have hC:=MakesE.g (fl _ _ _ _ 245 5 w1 (HE.o.grow ak) h64 Pg.o Aw.o (by decide));exact zc hC
   rintro _ ⟨QY,Ra,QU,QW,QX,QZ,QT,QV,rfl⟩;simp only[Act.put,aC,aB,aA];refine Zc ?_;intro w8 aJ hF;have h65:ExactAt w8 (.agg (zD QY Ra QU QW QX QZ QT QV)) (bZ b lo hi false k+Zu (hi-lo) [wt,hi-pos,(hi-lo)*(hi-lo)-(hi-pos)*(hi-pos)]):=hF 65;have HL:=zh h65;have dt:=zh (et.o.grow aJ);obtain⟨_,_,_,_,_,_,_,_,h1,-⟩:=dt.o.sum;have q0:=h1.cell 0;have q1:=h1.cell 1;have q2:=h1.cell 2;have q3:=h1.cell 3;have f0:=h1.frozen 0
   have f1:=h1.frozen 1;have f2:=h1.frozen 2;have f3:=h1.frozen 3;simp only[aG,aH,aD] at q0 q1 q2 q3;rw[←HT.o] at HL;clear hF u0 u1 u2 u3 u4 u5 aJ h65 h1 HE jN et aS;go_wp2_with fail;have nP:=zh (dt.o.put HL.o);clear q0 q1 q2 q3 f0 f1 f2 f3 HL dt;go_roundw
   case rel=>exact⟨k+1,by omega,by go_num,nP⟩
   simp[intOf];omega
  have HT:Y0 (bZ b lo hi true (k+1)=bZ b lo hi true k+Zu (hi-lo) [wt,pos-lo,(hi-lo)*(hi-lo)-(pos-lo)*(pos-lo)]):=by
   unfold Y0 bZ;rw[jO.o];unfold pX;simp only[if_neg ky,if_true]
  have Aw:Y0 (bQ (Zu (hi-lo) [wt,pos-lo,(hi-lo)*(hi-lo)-(pos-lo)*(pos-lo)]) 5):=Gd (by omega) (by omega) (by omega) (by omega) (Cc (by omega) (by omega) (by omega));clear jO;go_wp2_with fail;obtain⟨mK,mM,mC,mI,mJ,mL,mB,mH,hB,hE⟩:=et.o.sum;obtain⟨y0,y1,y2,y3⟩:=hB.c4;have HE:=zh hE;have jN:=zh et.o.bel;have z:=Blk.new wr 40 #[.int .i64 pos,.int .i64 wt];obtain⟨z0,z1⟩:=z.c2;clear hB hE z cB dc;generalize wr.alloc (.cells #[.int .i64 pos,.int .i64 wt] 40)=W1 at*
  have u0:=YL y0;have u1:=YL y1;have u2:=YL y2;have u3:=YL y3;have u4:=YL z0;have u5:=YL z1;clear y0 y1 y2 y3 z0 z1;have jT:wt.natAbs≤4611686018427387904:=by omega
  have kZ:(pos-lo).natAbs≤4611686018427387904:=by omega
  have Mf:0≤(hi-lo)*(hi-lo):=Int.mul_nonneg (by omega) (by omega);have Yy:(hi-lo)*(hi-lo)≤1048576*1048576:=Int.mul_le_mul (by omega) (by omega) (by omega) (by omega);have hm3:0≤(pos-lo)*(pos-lo):=Int.mul_nonneg (by omega) (by omega);have hm4:(pos-lo)*(pos-lo)≤1048576*1048576:=Int.mul_le_mul (by omega) (by omega) (by omega) (by omega);have C6:((hi-lo)*(hi-lo)-(pos-lo)*(pos-lo)).natAbs≤4611686018427387904:=by omega
  refine af 15 (fun i=>if i=12 then some (gI [wt,pos-lo,(hi-lo)*(hi-lo)-(pos-lo)*(pos-lo)]) else if i=13 then some (gE (Zu (hi-lo) [wt,pos-lo,(hi-lo)*(hi-lo)-(pos-lo)*(pos-lo)])) else if i=14 then some (gE (bZ b lo hi true k+Zu (hi-lo) [wt,pos-lo,(hi-lo)*(hi-lo)-(pos-lo)*(pos-lo)])) else none) (by kernel_rfl) (by kernel_rfl) ?_;simp only[aM,aP,aN,aO];refine zw 12 ?_;simp only[aM,aP,aN,aO]
  repeat (go_big_quiet_step (fail))
  refine YE ?_;refine aV rfl rfl (fun w1 ak _=>fG (T:=3) (l:=[wt,pos-lo,(hi-lo)*(hi-lo)-(pos-lo)*(pos-lo)]) (yU rfl) (by go_simp)) ?_;rintro _ ⟨g63,rfl⟩;simp only[Act.put,aC,aB,aA];refine ae rfl rfl ?_ ?_
  ·intro w1 ak hk;have hb:=(jN.o).trans (ak.mono (jN.o).size);have UX:bg w1 w1.heap.size (.slice (some ⟨g63,0,none⟩) 3 3) [wt,pos-lo,(hi-lo)*(hi-lo)-(pos-lo)*(pos-lo)]:=hk 63 (by decide);have hC:=MakesE.g (fQ (hi-lo) _ [wt,pos-lo,(hi-lo)*(hi-lo)-(pos-lo)*(pos-lo)] w1 UX (yU rfl) (Qo jT kZ C6) (by omega) (by omega));exact zc hC
  rintro _ ⟨Ri,Rk,Rc,Rf,Rh,Rj,Rb,Re,rfl⟩;simp only[Act.put,aC,aB,aA];refine ae rfl rfl ?_ ?_
  ·intro w1 ak hk;have hb:=(jN.o).trans (ak.mono (jN.o).size);have h64:ExactAt w1 (.agg (zD Ri Rk Rc Rf Rh Rj Rb Re)) (Zu (hi-lo) [wt,pos-lo,(hi-lo)*(hi-lo)-(pos-lo)*(pos-lo)]):=hk 64 (by decide);have hC:=MakesE.g (fl _ _ _ _ 245 5 w1 (HE.o.grow ak) h64 Pg.o Aw.o (by decide));exact zc hC
  rintro _ ⟨QY,Ra,QU,QW,QX,QZ,QT,QV,rfl⟩;simp only[Act.put,aC,aB,aA];refine Zc ?_;intro w8 aJ hF;have h65:ExactAt w8 (.agg (zD QY Ra QU QW QX QZ QT QV)) (bZ b lo hi true k+Zu (hi-lo) [wt,pos-lo,(hi-lo)*(hi-lo)-(pos-lo)*(pos-lo)]):=hF 65;have HL:=zh h65;have dt:=zh (et.o.grow aJ);obtain⟨_,_,_,_,_,_,_,_,h1,-⟩:=dt.o.sum;have q0:=h1.cell 0;have q1:=h1.cell 1;have q2:=h1.cell 2;have q3:=h1.cell 3;have f0:=h1.frozen 0
  have f1:=h1.frozen 1;have f2:=h1.frozen 2;have f3:=h1.frozen 3;simp only[aG,aH,aD] at q0 q1 q2 q3;rw[←HT.o] at HL;clear hF u0 u1 u2 u3 u4 u5 aJ h65 h1 HE jN et aS;go_wp2_with fail;have nP:=zh (dt.o.put HL.o);clear q0 q1 q2 q3 f0 f1 f2 f3 HL dt;go_roundw
  case rel=>exact⟨k+1,by omega,by go_num,nP⟩
  simp[intOf];omega
 obtain rfl:k=b.loads.length:=by omega
 have et:=aS;obtain⟨mK,mM,mC,mI,mJ,mL,mB,mH,hB,hE⟩:=et.o.sum;obtain⟨y0,y1,y2,y3⟩:=hB.c4;have HE:=zh hE;have jN:=zh et.o.bel;have q0:=aS.o.res.cell 0;have q1:=aS.o.res.cell 1;have q2:=aS.o.res.cell 2;have q3:=aS.o.res.cell 3;have f0:=aS.o.res.frozen 0;have f1:=aS.o.res.frozen 1;have f2:=aS.o.res.frozen 2;have f3:=aS.o.res.frozen 3;simp only[aG,aH,aD] at q0 q1 q2 q3;clear hB hE;go_wp2_with fail;refine YF (v:=.agg (zD mK mM mC mI mJ mL mB mH)) (by simp[results,Tryz.results153,go_sem,q0,q1,q2,q3]) rfl ?_
 exact⟨bA jN.o (by omega) _ _ _ _,_,rfl,HE.o.stored aS.o.res _ _ _ _⟩
def gB (b:BeamT):GPost:=⟨fun v=>∃As cs Al cl,v=.agg #[.string b.name,.int .i64 b.len,.slice As b.sup.length cs,.slice Al b.loads.length cl,.int .i64 b.even],fun v w=>BeamAt w w.heap.size v b,⟨_,none,0,none,0,rfl⟩,fun _ _ _ hb h=>BeamAt.grow h hb,false⟩
theorem TurnedPost.g {P:Program} {f:FuncId} {args:Array Value} {w:World} {b:BeamT} (h:Calls P f args w (TurnedPost b w)):Calls P f args w fun e w'=>∃v,e=.returned v∧Below w.heap.size w w'∧(gB (al b)).σ v∧(gB (al b)).φ v w' :=
 h.mono fun _ _ ⟨hb,v,he,hB⟩=>⟨v,he,hb,(by obtain⟨As,cs,Al,cl,h1,_,_⟩:=hB;exact⟨As,cs,Al,cl,h1⟩),hB⟩
def BX (B:Nat) (v:Value) (w:World):Prop:=∃g,v=.pointer (some ⟨g,0,none⟩)∧B≤g∧Blk w g 154 #[.bool false,.slice none 0 0,.bool false,.slice none 0 0]
def gA (B:Nat):GPost:=⟨fun v=>∃g,v=.pointer (some ⟨g,0,none⟩),BX B,⟨_,0,rfl⟩,fun _ _ _ hb h=>by
 obtain⟨g,h1,h2,h3⟩:=h;exact⟨g,h1,h2,h3.below hb h3.lt⟩,true⟩
theorem KB {P:Program} {o:Oper} {a:Act} {w:World} {B:Nat} (hB:B≤w.heap.size) (h:(execOp a.eval o).run P w=.ok (.value (.pointer (some ⟨w.heap.size,0,none⟩))) (w.alloc (.cells (zD false none 0 0 false none 0 0) 154))):kX P o a (gA B) w :=
 ⟨_,_,h,(yB _ _).alloc (yA _) _,⟨_,rfl⟩,⟨_,rfl,hB,Blk.new _ _ _⟩,fun _=>⟨w.heap.size,rfl,yA _,by simp⟩⟩
theorem nS {a:Act} {d e:Tmp} (h1:sG (a.eval (.tmp d))=none) (h2:sG (a.eval (.tmp e))=none):∀x∈[d,e],sG (a.eval (.tmp x))=none:=fun x hx=>by
 simp at hx;rcases hx with rfl|rfl
 ·exact h1
 exact h2
def ExsAt (w:World) (v:Value) (l:List Rat):Prop:=∃g,v=.slice (some ⟨g,0,none⟩) l.length l.length∧ExRow w g l.length (fun j=>l[j]?)
theorem ExsAt.grow {w w':World} {v:Value} {l:List Rat} (h:ExsAt w v l) (hb:Below w.heap.size w w'):ExsAt w' v l:=by
 obtain⟨g,h1,h2⟩:=h;exact⟨g,h1,h2.grow hb⟩
def bN (b:BeamT):Bool:=if b.sup.length=1 then decide (bu b-bu (al b)=0) else true
def Dq (b:BeamT) (w:World) (e:Ending) (w':World):Prop:=Below w.heap.size w w'∧∃v,e=.returned (.tuple #[v,.bool (bN b)])∧ExsAt w' v (jw b)
def gX (q:Rat):GPost:=⟨fun v=>∃g,v=.slice (some ⟨g,0,none⟩) 1 1,fun v w=>ExsAt w v [q],⟨_,0,rfl⟩,fun _ _ _ hb h=>ExsAt.grow h hb,false⟩
theorem qjr {P:Program} {o:Oper} {a:Act} {w:World} {q:Rat} {b1:Bool} {A1:Option Addr} {l1 c1:Nat} {b2:Bool} {A2:Option Addr} {l2 c2:Nat} (hE:ExactAt w (.agg (zD b1 A1 l1 c1 b2 A2 l2 c2)) q)
  (h:(execOp a.eval o).run P w=.ok (.value (.slice (some ⟨w.heap.size,0,none⟩) 1 1)) (w.alloc (.cells (zD b1 A1 l1 c1 b2 A2 l2 c2) 154))):kX P o a (gX q) w :=
 ⟨_,_,h,(yB _ _).alloc (yA _) _,⟨_,rfl⟩,⟨w.heap.size,rfl,[⟨b1,A1,l1,c1,b2,A2,l2,c2⟩],rfl,Blk.new _ _ _,fun j hj q' hq=>by
  obtain rfl:j=0:=by simpa using hj
  have e:q=q':=by simpa using hq
  rw[←e];exact hE.grow ((yB _ _).alloc (yA _) _)⟩,fun h=>by cases h⟩
theorem PU {P:Program} {ops:Array Oper} {W:World} {Φ:Nat→Option GPost} {K:Act→aL→Prop} {k:Nat} {o:Oper} {r:List Oper} {a:Act} {F:aL} {v:Value} (hg:o.guard=none) (hφ:Φ k=none)
  (h:∀w,(execOp a.eval o).run P w=.ok (.value v) w) (hK:wu P ops W Φ K (k+1) r (a.put o.dst v) (iM F o.dst (lQ ops o F))):wu P ops W Φ K k (o::r) a F:=by
 show bW P ops W o (Φ k) _ a F;have hw:Region.wanted o (yielded ops a.tmps)=true:=by
  unfold Region.wanted;rw[hg]
 unfold bW;rw[if_pos hw,hφ];exact⟨v,fun w _=>by rw[h w];exact⟨rfl,rfl⟩,hK⟩
def gV (v0:Value):GPost:=⟨fun v=>v=v0,fun _ _=>True,⟨_,rfl⟩,fun _ _ _ _ h=>h,false⟩
theorem Np (q:Rat):(iy q.num==0)=decide (q=0):=by
 rw[Bool.eq_iff_iff,beq_iff_eq,decide_eq_true_eq,←Rat.num_eq_zero];unfold iy;split
 ·rename_i h;simp[h]
 rename_i h
 refine⟨fun h2=>?_,fun h2=>absurd h2 h⟩;split at h2 <;> cases h2
theorem qj2 {w:World} {b1:Bool} {A1:Option Addr} {l1 c1:Nat} {b2:Bool} {A2:Option Addr} {l2 c2:Nat} {d1:Bool} {D1:Option Addr} {m1 e1:Nat} {d2:Bool} {D2:Option Addr} {m2 e2:Nat} {z:Int}
  (e:Value.agg (zD b1 A1 l1 c1 b2 A2 l2 c2)=.agg (zD d1 D1 m1 e1 d2 D2 m2 e2)) (h:NumAt w (.agg #[.bool d1,.slice D1 m1 e1]) z) :
  Calls Tryz.prog 152 #[.agg #[.bool b1,.slice A1 l1 c1]] w fun e w'=>∃v,e=.returned v∧Below w.heap.size w w'∧(gV (.int .i64 (iy z))).σ v∧(gV (.int .i64 (iy z))).φ v w':=by
 simp only[Value.agg.injEq,Array.mk.injEq,List.cons.injEq,and_true] at e;obtain⟨e1,e2,-⟩:=e;rw[e1,e2];exact (VK _ z w h).mono fun _ _ ⟨he,hb⟩=>⟨_,he,hb,rfl,trivial⟩
structure MomSt (w wr:World) (b:BeamT) (bx:Array Value) (g5 g6:Nat):Prop where
 bm:Blk wr w.heap.size 43 bx
 fst:ExBox wr g5 (bu b)
 lst:ExBox wr g6 (bu (al b))
 bel:Below w.heap.size w wr
 n5:w.heap.size<g5
 n6:w.heap.size<g6
 n56:g6≠g5
theorem MomSt.start {w W1 w8:World} {b:BeamT} {bx:Array Value} {g5 g6:Nat} (hD:Blk w8 w.heap.size 43 bx) (hB:Below w.heap.size w w8) (hW:w.heap.size < W1.heap.size) (h5:BX W1.heap.size (.pointer (some ⟨g5,0,none⟩)) w8) (h6:BX W1.heap.size (.pointer (some ⟨g6,0,none⟩)) w8) (Oq:g6 ≠ g5)
  {a1:Bool} {A1:Option Addr} {l1 c1:Nat} {a2:Bool} {A2:Option Addr} {l2 c2:Nat} (hx:ExactAt w8 (.agg (zD a1 A1 l1 c1 a2 A2 l2 c2)) (bu b))
  {d1:Bool} {D1:Option Addr} {m1 e1:Nat} {d2:Bool} {D2:Option Addr} {m2 e2:Nat} (hy:ExactAt w8 (.agg (zD d1 D1 m1 e1 d2 D2 m2 e2)) (bu (al b))) :
  MomSt w ((((((((w8.setCell ⟨g5,0,none⟩ (.bool a1)).setCell ⟨g5,1,none⟩ (.slice A1 l1 c1)).setCell ⟨g5,2,none⟩ (.bool a2)).setCell ⟨g5,3,none⟩ (.slice A2 l2 c2)).setCell ⟨g6,0,none⟩ (.bool d1)).setCell ⟨g6,1,none⟩ (.slice D1 m1 e1)).setCell ⟨g6,2,none⟩ (.bool d2)).setCell ⟨g6,3,none⟩ (.slice D2 m2 e2)) b bx g5 g6:=by
 obtain⟨_,e5,h52,h53⟩:=h5;obtain⟨_,e6,h62,UX⟩:=h6;injection e5 with e5;injection e5 with e5;injection e5 with e5 _ _;injection e6 with e6;injection e6 with e6;injection e6 with e6 _ _;subst e5 e6;have f1:=ExBox.put h53 rfl hx;have f2:=UX.far4o Oq 0 (.bool a1) (.slice A1 l1 c1) (.bool a2) (.slice A2 l2 c2);have f3:=hy.set4 h53 0 (.bool a1) (.slice A1 l1 c1) (.bool a2) (.slice A2 l2 c2);have f4:=hD.far4o (show w.heap.size≠g5 by omega) 0 (.bool a1) (.slice A1 l1 c1) (.bool a2) (.slice A2 l2 c2)
 exact⟨f4.far4o (show w.heap.size≠g6 by omega) 0 _ _ _ _,f1.far f2 (Ne.symm Oq) 0 _ _ _ _,ExBox.put f2 rfl f3,dH (dH hB (by omega) 0 _ _ _ _) (by omega) 0 _ _ _ _,by omega,by omega,Oq⟩
theorem MomSt.grow {w wr w':World} {b:BeamT} {bx:Array Value} {g5 g6:Nat} (h:MomSt w wr b bx g5 g6) (hb:Below wr.heap.size wr w'):MomSt w w' b bx g5 g6 :=
 ⟨h.bm.below hb h.bm.lt,h.fst.grow hb,h.lst.grow hb,h.bel.trans (hb.mono h.bel.size),h.n5,h.n6,h.n56⟩
def WU (B m:Nat) (v:Value) (w:World):Prop:=∃g,v=.slice (some ⟨g,0,none⟩) m m∧B≤g∧ExRow w g m (fun _=>none)
def gR (B m:Nat):GPost:=⟨fun v=>∃g,v=.slice (some ⟨g,0,none⟩) m m,WU B m,⟨_,0,rfl⟩,fun _ _ _ hb h=>by
 obtain⟨g,h1,h2,h3⟩:=h;exact⟨g,h1,h2,h3.grow hb⟩,true⟩
theorem Vi {o:Oper} {a:Act} {w:World} {B m:Nat} {l c:Operand} (hop:o.op=Op.makeSlice 105 l c) (hl:a.eval l=.int .i64 (m:Int)) (hc:a.eval c=.int .i64 (m:Int)) (hm:m≤1000) (hB:B≤w.heap.size):kX Tryz.prog o a (gR B m) w:=by
 obtain⟨iE,Kn,qI,qH,tz⟩:=info_parts qG;obtain⟨w',kA,r1,r2⟩:=run_make_full (P:=Tryz.prog) w w.heap.size 105 154 iE (.agg (zD false none 0 0 false none 0 0)) 4 Tryz.underlying105 Kn qI qH .i64 .i64 m (by rw[tz];omega) (by unfold maxLen;omega) (Nat.le_refl _);have hb:Below w.heap.size w w':=(yB _ _).grown r2 (yA _) (fun k hk=>by cases hk);have hR:=ExRow.made r1;refine⟨_,w',?_,hb,⟨_,rfl⟩,⟨_,rfl,hB,hR⟩,fun _=>⟨w.heap.size,rfl,yA _,hR.lt⟩⟩
 simp[execOp,hop,hl,hc,kA,Result.andThen]
theorem MomSt.set4 {w wr:World} {b:BeamT} {bx:Array Value} {g5 g6 g:Nat} {cs:Array Value} (h:MomSt w wr b bx g5 g6) (hg:Blk wr g 154 cs) (h0:w.heap.size<g) (h5:g≠g5) (h6:g≠g6) (o:Nat) (x0 x1 x2 x3:Value) :
  MomSt w ((((wr.setCell ⟨g,o,none⟩ x0).setCell ⟨g,o+1,none⟩ x1).setCell ⟨g,o+2,none⟩ x2).setCell ⟨g,o+3,none⟩ x3) b bx g5 g6 :=
 ⟨h.bm.far4o (Nat.ne_of_lt h0) _ _ _ _ _,h.fst.far hg (Ne.symm h5) _ _ _ _ _,h.lst.far hg (Ne.symm h6) _ _ _ _ _,dH h.bel (YG h0) _ _ _ _ _,h.n5,h.n6,h.n56⟩
structure MomRows (w wr:World) (b:BeamT) (bx:Array Value) (g5 g6 go gd gr:Nat) (fo fd fr:Nat→Option Rat):Prop where
 st:MomSt w wr b bx g5 g6
 o:ExRow wr go b.sup.length fo
 dia:ExRow wr gd b.sup.length fd
 rgt:ExRow wr gr b.sup.length fr
 lo:w.heap.size<go∧w.heap.size<gd∧w.heap.size<gr
 no:go≠g5∧go≠g6
 nd:gd≠g5∧gd≠g6
 nr:gr≠g5∧gr≠g6
 ne:go≠gd∧go≠gr∧gd≠gr
theorem gx (f:Nat→Option Rat) (i:Nat) (q:Rat):eh f i q i=some q:=if_pos rfl
theorem xk (f:Nat→Option Rat) {i j:Nat} (q:Rat) (h:j≠i):eh f i q j=f j:=if_neg h
theorem gy (f:Nat→Option Rat) (i:Nat) (p q:Rat):eh (eh f i p) i q=eh f i q:=by
 funext j
 unfold eh;split <;> rfl
def gq (f:Nat→Rat) (i:Nat):Nat→Option Rat:=fun j=>if 1≤j∧j<i then some (f j) else none
theorem m8 (f:Nat→Rat) {i:Nat} (hi:1≤i):gq f (i+1)=eh (gq f i) i (f i):=by
 funext j
 unfold gq eh;by_cases e:j=i
 ·subst e;rw[if_pos rfl,if_pos ⟨hi,by omega⟩]
 rw[if_neg e];dsimp only
 by_cases h:1≤j∧j<i
 ·rw[if_pos h,if_pos ⟨h.1,by omega⟩]
 rw[if_neg h,if_neg (fun h2=>h ⟨h2.1,by omega⟩)]
theorem rr (f:Nat→Rat) {i j:Nat} (h1:1≤j) (h2:j<i):gq f i j=some (f j):=if_pos ⟨h1,h2⟩
theorem AG (f:Nat→Rat):gq f 1=fun _=>none:=by
 funext j
 exact if_neg (by omega)
theorem VC (b:BeamT) {i:Nat} (hi:2≤i):bK b i=((2*(aX b i+aX b (i+1)):Int):Rat)-((aX b i:Int):Rat)/bK b (i-1)*((aX b i:Int):Rat):=by
 obtain⟨j,rfl⟩:∃j,i=j+2:=⟨i-2,by omega⟩;rfl
theorem XI (b:BeamT) {i:Nat} (hi:2≤i):gK b i=ki b i-((aX b i:Int):Rat)/bK b (i-1)*gK b (i-1):=by
 obtain⟨j,rfl⟩:∃j,i=j+2:=⟨i-2,by omega⟩;rfl
section
variable {w wr w':World} {b:BeamT} {bx:Array Value} {g5 g6 go gd gr:Nat} {fo fd fr:Nat→Option Rat}
theorem MomRows.grow (h:MomRows w wr b bx g5 g6 go gd gr fo fd fr) (hb:Below wr.heap.size wr w'):MomRows w w' b bx g5 g6 go gd gr fo fd fr :=
 ⟨h.st.grow hb,h.o.grow hb,h.dia.grow hb,h.rgt.grow hb,h.lo,h.no,h.nd,h.nr,h.ne⟩
theorem MomRows.alloc (h:MomRows w wr b bx g5 g6 go gd gr fo fd fr) (o:Obj):MomRows w (wr.alloc o) b bx g5 g6 go gd gr fo fd fr:=h.grow ((yB _ _).alloc (yA _) _)
theorem MomRows.drew (h:MomRows w wr b bx g5 g6 go gd gr fo fd fr) (n:Nat):MomRows w (wr.drewN n) b bx g5 g6 go gd gr fo fd fr:=h.grow (Zf (yB _ _) n)
variable {b1:Bool} {A1:Option Addr} {l1 c1:Nat} {b2:Bool} {A2:Option Addr} {l2 c2:Nat} {q:Rat}
theorem MomRows.putD (h:MomRows w wr b bx g5 g6 go gd gr fo fd fr) {i:Nat} (hi:i<b.sup.length) (hE:ExactAt wr (.agg (zD b1 A1 l1 c1 b2 A2 l2 c2)) q) :
  MomRows w ((((wr.setCell ⟨gd,i*4,none⟩ (.bool b1)).setCell ⟨gd,i*4+1,none⟩ (.slice A1 l1 c1)).setCell ⟨gd,i*4+2,none⟩ (.bool b2)).setCell ⟨gd,i*4+3,none⟩ (.slice A2 l2 c2)) b bx g5 g6 go gd gr fo (eh fd i q) fr:=by
 obtain⟨cs,hg⟩:=h.dia.blk;exact⟨h.st.set4 hg h.lo.2.1 h.nd.1 h.nd.2 _ _ _ _ _,h.o.far hg h.ne.1 _ _ _ _ _,h.dia.write hi hE,h.rgt.far hg (Ne.symm h.ne.2.2) _ _ _ _ _,h.lo,h.no,h.nd,h.nr,h.ne⟩
theorem MomRows.farB (h:MomRows w wr b bx g5 g6 go gd gr fo fd fr) {g:Nat} {cs:Array Value} (hg:Blk wr g 154 cs) (h0:∀x∈[w.heap.size,g5,g6,go,gd,gr],x<g) (x0 x1 x2 x3:Value) :
  MomRows w ((((wr.setCell ⟨g,0,none⟩ x0).setCell ⟨g,1,none⟩ x1).setCell ⟨g,2,none⟩ x2).setCell ⟨g,3,none⟩ x3) b bx g5 g6 go gd gr fo fd fr:=by
 have k:=fun x (hx:x∈[w.heap.size,g5,g6,go,gd,gr])=>h0 x hx;exact⟨h.st.set4 hg (k _ (by simp)) (Nat.ne_of_gt (k _ (by simp))) (Nat.ne_of_gt (k _ (by simp))) 0 _ _ _ _,h.o.far hg (Nat.ne_of_lt (k _ (by simp))) 0 _ _ _ _,h.dia.far hg (Nat.ne_of_lt (k _ (by simp))) 0 _ _ _ _,h.rgt.far hg (Nat.ne_of_lt (k _ (by simp))) 0 _ _ _ _,h.lo,h.no,h.nd,h.nr,h.ne⟩
theorem MomRows.all_lt (h:MomRows w wr b bx g5 g6 go gd gr fo fd fr) {B:Nat} (hB:wr.heap.size≤B):∀x∈[w.heap.size,g5,g6,go,gd,gr],x<B:=fun x hx=>by
 have k1:=h.st.bm.lt;obtain⟨_,_,_,_,_,_,_,_,k2,-⟩:=h.st.fst;obtain⟨_,_,_,_,_,_,_,_,k3,-⟩:=h.st.lst;have k2:=k2.lt;have k3:=k3.lt;have k4:=h.o.lt;have k5:=h.dia.lt;have k6:=h.rgt.lt;simp at hx;omega
theorem MomRows.putR (h:MomRows w wr b bx g5 g6 go gd gr fo fd fr) {i:Nat} (hi:i<b.sup.length) (hE:ExactAt wr (.agg (zD b1 A1 l1 c1 b2 A2 l2 c2)) q) :
  MomRows w ((((wr.setCell ⟨gr,i*4,none⟩ (.bool b1)).setCell ⟨gr,i*4+1,none⟩ (.slice A1 l1 c1)).setCell ⟨gr,i*4+2,none⟩ (.bool b2)).setCell ⟨gr,i*4+3,none⟩ (.slice A2 l2 c2)) b bx g5 g6 go gd gr fo fd (eh fr i q):=by
 obtain⟨cs,hg⟩:=h.rgt.blk;exact⟨h.st.set4 hg h.lo.2.2 h.nr.1 h.nr.2 _ _ _ _ _,h.o.far hg h.ne.2.1 _ _ _ _ _,h.dia.far hg h.ne.2.2 _ _ _ _ _,h.rgt.write hi hE,h.lo,h.no,h.nd,h.nr,h.ne⟩
theorem MomRows.putO (h:MomRows w wr b bx g5 g6 go gd gr fo fd fr) {i:Nat} (hi:i<b.sup.length) (hE:ExactAt wr (.agg (zD b1 A1 l1 c1 b2 A2 l2 c2)) q) :
  MomRows w ((((wr.setCell ⟨go,i*4,none⟩ (.bool b1)).setCell ⟨go,i*4+1,none⟩ (.slice A1 l1 c1)).setCell ⟨go,i*4+2,none⟩ (.bool b2)).setCell ⟨go,i*4+3,none⟩ (.slice A2 l2 c2)) b bx g5 g6 go gd gr (eh fo i q) fd fr:=by
 obtain⟨cs,hg⟩:=h.o.blk;exact⟨h.st.set4 hg h.lo.1 h.no.1 h.no.2 _ _ _ _ _,h.o.write hi hE,h.dia.far hg (Ne.symm h.ne.1) _ _ _ _ _,h.rgt.far hg (Ne.symm h.ne.2.1) _ _ _ _ _,h.lo,h.no,h.nd,h.nr,h.ne⟩
end
def qc (b:BeamT) (i:Nat):Nat→Option Rat:=fun j=>if j=0∨i<j then some (Zx b j) else none
theorem G8 (b:BeamT) (hm:2≤b.sup.length) {j:Nat} {q:Rat} (hj:j<b.sup.length) (h:qc b (b.sup.length-2) j=some q):eh (eh (fun _=>none) 0 (bu b)) (b.sup.length-1) (bu (al b)) j=some q:=by
 unfold qc at h;split at h
 ·rename_i hc
  rw[←h];unfold eh Zx;by_cases e:j=b.sup.length-1
  ·rw[if_pos e,if_neg (by omega),e,Nat.sub_self];rfl
  rw[if_neg e];dsimp only
  rw[if_pos (by omega),if_pos (by omega)]
 cases h
theorem KT (b:BeamT) {i:Nat} (hi:1≤i):eh (qc b i) i (Zx b i)=qc b (i-1):=by
 funext j
 unfold eh qc;by_cases e:j=i
 ·subst e;rw[if_pos rfl,if_pos (.inr (by omega))]
 rw[if_neg e];by_cases h:j=0∨i<j
 ·rw[if_pos h,if_pos (by omega)]
 rw[if_neg h,if_neg (by omega)]
theorem Wb (b:BeamT) {i j:Nat} (h:i<j):qc b i j=some (Zx b j):=if_pos (.inr h)
theorem OR (b:BeamT) {j:Nat} {q:Rat} (h:(jw b)[j]?=some q):qc b 0 j=some q:=by
 unfold jw at h;rw[YC] at h
 cases hj:(List.range b.sup.length)[j]? with
 | none=>rw[hj] at h;cases h
 | some x=>
  rw[hj] at h;obtain⟨h1,h2⟩:=List.getElem?_eq_some_iff.1 hj;simp only[List.getElem_range] at h2;subst h2;unfold qc;rw[if_pos (by omega)];exact h
theorem TT (b:BeamT) {i:Nat} (h1:1≤i) (h2:i+1<b.sup.length):Zx b i=(gK b i-Zx b (i+1)*((aX b (i+1):Int):Rat))/bK b i:=by
 obtain⟨j,hj⟩:∃j,b.sup.length-1-i=j+1:=⟨b.sup.length-2-i,by omega⟩;unfold Zx;rw[if_neg (by omega),if_neg (by omega),hj];have e1:b.sup.length-2-j=i:=by omega
 have e2:b.sup.length-1-j=i+1:=by omega
 have e3:b.sup.length-1-(i+1)=j:=by omega
 rw[e3];show (gK b (b.sup.length-2-j)-zq b j*((aX b (b.sup.length-1-j):Int):Rat))/bK b (b.sup.length-2-j)=_;rw[e1,e2]
theorem MomRows.weakO {w wr:World} {b:BeamT} {bx:Array Value} {g5 g6 go gd gr:Nat} {fo fd fr f':Nat→Option Rat} (h:MomRows w wr b bx g5 g6 go gd gr fo fd fr) (hf:∀j q,j<b.sup.length→f' j=some q→fo j=some q):MomRows w wr b bx g5 g6 go gd gr f' fd fr :=
 ⟨h.st,h.o.weak hf,h.dia,h.rgt,h.lo,h.no,h.nd,h.nr,h.ne⟩
theorem rN (b:BeamT):(jw b).length=b.sup.length:=by simp[jw]
