/- Lemmas. -/
import Derived.Test.YtmmhehgajkaniaaGreatDoorZ25
namespace Go.Proofs.YtmmhehgajkaniaaGreatDoor
set_option maxRecDepth 100000
set_option maxHeartbeats 40000000
open Go.RowKit Go.Shelf
def Wq (b:BeamT) (w:World) (e:Ending) (w':World):Prop:=Below w.heap.size w w'∧∃g,e=.returned (.slice (some ⟨g,0,none⟩) b.sup.length b.sup.length)∧EqRow w' g b.sup.length (fun j=>some (Zx b j)) 67530
theorem F8:(Tryz.prog.info? 193).map (fun i=>(i.zero,i.size,i.bytes))=some (some (.agg (zD false none 0 0 false none 0 0)),4,64):=by kernel_rfl
theorem DZ {b:BeamT} (hb:BeamOk b):ah (al b) 0=b.len-ah b (b.sup.length-1):=by
 have h1:=hb.sup1;unfold ah al;simp only[List.getD_eq_getElem?_getD,List.getElem?_map];rw[List.getElem?_reverse (by omega),Nat.sub_zero,yM (by omega)];rfl
theorem uz {b:BeamT} (hb:BeamOk b):(0:Rat)-dx (al b) (b.len-ah b (b.sup.length-1))=bu (al b):=by
 rw[t8,DZ hb];rfl
theorem Yj {b:BeamT} (hb:BeamOk b) {i:Nat} (hi:i<b.sup.length):bQ (Zx b i) 50647:=NK hb hi
theorem Ea {x:Int} (h1:x.natAbs≤1152921504606846976):∀z∈[x],z.natAbs≤1152921504606846976:=fun z hz=>by
 simp at hz;rw[hz];exact h1
theorem Ns (v:Value) (b:BeamT) (w:World) (hv:BeamAt w w.heap.size v b) (hb:BeamOk b) (ht:bN b=true) (hT:∀(u:Value) (w1:World),BeamAt w1 w1.heap.size u b→Calls Tryz.prog 205 #[u] w1 (TurnedPost b w1)) :
  Calls Tryz.prog 142 #[v] w (Wq b w):=by
 have BR:=hv;obtain⟨As,cs,Al,cl,rfl,hS,-⟩:=hv;obtain⟨_,_,e,_,jJ,u7⟩:=hS.open_;injection e with e1 _ e2;subst e1 e2;have h1:=hb.sup1;have h4:=hb.sup 0 h1.1;have h5:=hb.sup (b.sup.length-1) (by omega);unfold maxLen at jJ;obtain⟨bs,os,rfl,gg,By⟩:=u7 0 h1.1;have np:Y0 (∀j,j<b.sup.length→w.cell? ⟨bs,os+j,none⟩=some (.int .i64 (ah b j))):=fun j hj=>by
  have h:=By j hj;unfold ah;rw[yN,yM hj];exact h
 have Hb:=zh hb;have OZ:=zh ht;have HT:=zh hT;have HA0:=zh h4;have HA1:=zh h5;have h5l:=hb.len.2;have bp:=zh ((yB _ w).alloc (yA _) (.cells (zC b (some ⟨bs,os,none⟩) cs Al cl) 43));have HV:=zh (BR.grow bp.o);have HVw:=zh BR;have cP:=zh (Blk.new w 43 (zC b (some ⟨bs,os,none⟩) cs Al cl));have z0:=(bp.o.cell (p:=⟨bs,os+0,none⟩) gg).trans (np.o 0 h1.1);rw[Nat.add_zero] at z0;have s0:(0:Int)<(b.sup.length:Int):=by omega
 obtain⟨s3,s1⟩:=h1;clear u7 hb hS hT BR h4 h5 By ht;go_enter Tryz.func142,Tryz.ntmps142;go_upto_region 1 with fail;generalize w.alloc (.cells (zC b (some ⟨bs,os,none⟩) cs Al cl) 43)=W1 at*;obtain⟨y0,y1,y2,y3,y4⟩:=cP.o.c5;generalize hsa:ah b 0=sa at*;have GD:=zh hsa;clear hsa;go_upto_region 3 with fail;have zL:=YL y0;have zK:=YL y1;have AE:=YL y2;have AB:=YL y3;have uy4:=YL y4;have WW:=YL z0;clear y0 y1 y2 y3 y4 z0
 refine af 8 (fun jx=>if jx=0 then some (jU (0) (30)) else if jx=5 then some (jU (dx b sa) (1270)) else if jx=6 then some (jU (0-dx b sa) (1301)) else if jx=7 then some (gAq W1.heap.size) else none) (by kernel_rfl) (by kernel_rfl) ?_;simp only[aM,aP,aN,aO];refine ae rfl rfl ?_ ?_
 ·intro w1 ak hk;have hC:=wM w1;exact zc (Zg hC)
 rintro _ ⟨ET,EV,EO,ER,ES,EU,EN,EP,rfl⟩;simp only[Act.put,aC,aB,aA];refine zw 4 ?_;simp only[aM,aP,aN,aO]
 repeat (go_big_quiet_step (fail))
 refine YE ?_;refine ae rfl rfl ?_ ?_
 ·intro w1 ak hk;have hC:=I4 _ b sa w1 (HV.o.grow ak) Hb.o HA0.o.1 HA0.o.2;exact zc (Zg hC)
 rintro _ ⟨vqR,vqT,vqN,vqP,vqQ,vqS,vqM,vqO,rfl⟩;simp only[Act.put,aC,aB,aA];refine ae rfl rfl ?_ ?_
 ·intro w1 ak hk;have Mu:ExqAt w1 w1.heap.size (.agg (zD ET EV EO ER ES EU EN EP)) (0) (30):=hk 20 zk;have h25:ExqAt w1 w1.heap.size (.agg (zD vqR vqT vqN vqP vqQ vqS vqM vqO)) (dx b sa) (1270):=hk 25 zk;have hC:=kM _ _ 0 (dx b sa) 30 1270 w1 Mu h25 (by decide);exact zc (Zg hC)
 rintro _ ⟨LB,LD,L6,L9,LA,LC,L1,L8,rfl⟩;simp only[Act.put,aC,aB,aA];refine aV rfl rfl (fun w1 ak _=>vO ak.size (by go_simp)) ?_;rintro _ ⟨g5,rfl⟩;simp only[Act.put,aC,aB,aA];refine Zc ?_;intro w8 aJ hF;have kD:ExqAt w8 w8.heap.size (.agg (zD LB LD L6 L9 LA LC L1 L8)) (0-dx b sa) 1301:=hF 26;have h5:zJ W1.heap.size (.pointer (some ⟨g5,0,none⟩)) w8:=hF 5;obtain⟨g5',e5,Oj,eb⟩:=h5;injection e5 with e5
 injection e5 with e5;injection e5 with e5 _ _;subst e5;obtain⟨q0,q1,q2,q3⟩:=eb.c4;have CQ:=eb.frozen (0);have CP:=eb.frozen (1);have CO:=eb.frozen (2);have CN:=eb.frozen (3);have hEq:(0:Rat)-dx b sa=bu b:=by rw[t8,GD.o];rfl
 rw[hEq] at kD;have PI:=zh (EqBox.first eb kD);have ep:=zh (bp.o.trans (aJ.mono bp.o.size));have ao:w.heap.size<W1.heap.size:=cP.o.lt;have nG:=zh ((cP.o.below aJ cP.o.lt).far4 (D:=g5) (by omega) (.bool LB) (.slice LD L6 L9) (.bool LA) (.slice LC L1 L8));have WO:=zh (bA ep.o (show w.heap.size≤g5 by omega) (.bool LB) (.slice LD L6 L9) (.bool LA) (.slice LC L1 L8));have Hg5:Y0 (w.heap.size<g5):=by unfold Y0;omega
 clear hF kD eb hEq zL zK AE AB uy4 WW ao aJ Oj ep;go_upto_region 4 with fail;generalize (((((w8).setCell ⟨g5,0,none⟩ (.bool LB)).setCell ⟨g5,1,none⟩ (.slice LD L6 L9)).setCell ⟨g5,2,none⟩ (.bool LA)).setCell ⟨g5,3,none⟩ (.slice LC L1 L8))=W9 at*;clear q0 q1 q2 q3 CQ CP CO CN cP bp HV;have HV9:Y0 (BeamAt W9 W9.heap.size (.agg (zC b (some ⟨bs,os,none⟩) cs Al cl)) b):=HVw.o.grow WO.o;obtain⟨y0,y1,y2,y3,y4⟩:=nG.o.c5
 have z0:=(WO.o.cell (p:=⟨bs,os+(b.sup.length-1),none⟩) gg).trans (np.o (b.sup.length-1) (by omega));have HTu:=zh (uz Hb.o);generalize ah b (b.sup.length-1)=sl at*;have j0:(0:Int)≤(b.sup.length:Int)-1:=by omega
 have j1:(b.sup.length:Int)-1<(b.sup.length:Int):=by omega
 have j2:((b.sup.length:Int)-1).toNat=b.sup.length-1:=by omega
 have j5:IntKind.i64.wrap ((b.sup.length:Int)-1)=(b.sup.length:Int)-1:=yF _ (by omega);have zL:=YL y0;have zK:=YL y1;have AE:=YL y2;have AB:=YL y3;have uy4:=YL y4;have WW:=YL z0;clear y0 y1 y2 y3 y4 z0;refine af 10 (fun jx=>if jx=0 then some (jU (0) (30)) else if jx=7 then some (jU (dx (al b) (b.len-sl)) (1270)) else if jx=8 then some (jU (0-dx (al b) (b.len-sl)) (1301)) else if jx=9 then some (gAq W9.heap.size) else none) (by kernel_rfl) (by kernel_rfl) ?_
 simp only[aM,aP,aN,aO];refine ae rfl rfl ?_ ?_
 ·intro w1 ak hk;have hC:=wM w1;exact zc (Zg hC)
 rintro _ ⟨R8,RA,R4,R6,R7,R9,R3,R5,rfl⟩;simp only[Act.put,aC,aB,aA];refine zw 6 ?_;simp only[aM,aP,aN,aO]
 repeat (go_big_quiet_step (fail))
 refine YE ?_;refine ae rfl rfl ?_ ?_
 ·intro w1 ak hk;have hC:=AP _ b sl w1 (HV9.o.grow ak) Hb.o HA1.o.1 HA1.o.2 HT.o;exact zc (Zg hC)
 rintro _ ⟨vqx,vqz,vqt,vqv,vqw,vqy,vqs,vqu,rfl⟩;simp only[Act.put,aC,aB,aA];refine ae rfl rfl ?_ ?_
 ·intro w1 ak hk;have h27:ExqAt w1 w1.heap.size (.agg (zD R8 RA R4 R6 R7 R9 R3 R5)) (0) (30):=hk 27 zk;have h34:ExqAt w1 w1.heap.size (.agg (zD vqx vqz vqt vqv vqw vqy vqs vqu)) (dx (al b) (b.len-sl)) (1270):=hk 34 zk;have hC:=kM _ _ 0 (dx (al b) (b.len-sl)) 30 1270 w1 h27 h34 (by decide);exact zc (Zg hC)
 rintro _ ⟨EI,EK,EE,EG,EH,EJ,ED,EF,rfl⟩;simp only[Act.put,aC,aB,aA];refine aV rfl rfl (fun w1 ak _=>vO ak.size (by go_simp)) ?_;rintro _ ⟨g6,rfl⟩;simp only[Act.put,aC,aB,aA];refine Zc ?_;intro w8 aJ hF;have kD:ExqAt w8 w8.heap.size (.agg (zD EI EK EE EG EH EJ ED EF)) (0-dx (al b) (b.len-sl)) 1301:=hF 35;have h5:zJ W9.heap.size (.pointer (some ⟨g6,0,none⟩)) w8:=hF 6;obtain⟨g5',e5,Oj,eb⟩:=h5;injection e5 with e5
 injection e5 with e5;injection e5 with e5 _ _;subst e5;obtain⟨q0,q1,q2,q3⟩:=eb.c4;have CQ:=eb.frozen (0);have CP:=eb.frozen (1);have CO:=eb.frozen (2);have CN:=eb.frozen (3);rw[HTu.o] at kD;have ao:g5<W9.heap.size:=by
  obtain⟨_,_,_,_,_,_,_,_,h,-⟩:=PI.o;exact h.lt
 have mV:w.heap.size<g5:=Hg5.o;have Pe:=zh (EqBox.first eb kD);have qjS:=zh ((PI.o.grow aJ).far4 (D:=g6) (by omega) eb.kind (.bool EI) (.slice EK EE EG) (.bool EH) (.slice EJ ED EF));have ep:=zh (WO.o.trans (aJ.mono WO.o.size));have Pm:=zh ((nG.o.below aJ nG.o.lt).far4 (D:=g6) (by omega) (.bool EI) (.slice EK EE EG) (.bool EH) (.slice EJ ED EF));have vw8:=zh (bA ep.o (show w.heap.size≤g6 by omega) (.bool EI) (.slice EK EE EG) (.bool EH) (.slice EJ ED EF))
 have Hg6:Y0 (w.heap.size<g6):=by unfold Y0;omega
 clear hF kD eb HTu zL zK AE AB uy4 WW ao mV aJ Oj ep PI WO nG;go_upto_region 5 with fail;simp only[Nat.zero_add] at qjS;generalize (((((w8).setCell ⟨g6,0,none⟩ (.bool EI)).setCell ⟨g6,1,none⟩ (.slice EK EE EG)).setCell ⟨g6,2,none⟩ (.bool EH)).setCell ⟨g6,3,none⟩ (.slice EJ ED EF))=W11 at*;clear q0 q1 q2 q3 CQ CP CO CN HV9;obtain⟨iE,Kn,qI,qH,tz⟩:=info_parts F8;have aZ:iE.bytes*b.sup.length≤281474976710656:=by rw[tz];omega
 go_upto_region 6 with (at_make;refine wpList_make_full _ rfl _ _ 143 rfl _ 193 iE (.agg (zD false none 0 0 false none 0 0)) 4 Tryz.underlying143 Kn qI qH .i64 .i64 _ _ b.sup.length rfl rfl rfl rfl aZ (by unfold maxLen;omega) (Nat.le_refl _) ?_;intro X3 Uw Mk);have HR7:Y0 (EqRow X3 W11.heap.size b.sup.length (fun _=>none) 67530):=EqRow.made Uw;have pT:Below W11.heap.size W11 X3:=(yB _ _).grown Mk (yA _) (fun k hk=>by cases hk)
 have H5a:=zh (qjS.o.grow pT);have H6a:=zh (Pe.o.grow pT);have GC:Y0 (g5<W11.heap.size∧g6<W11.heap.size∧w.heap.size<W11.heap.size):=by
  obtain⟨_,_,_,_,_,_,_,_,h5,-⟩:=qjS.o;obtain⟨_,_,_,_,_,_,_,_,h6,-⟩:=Pe.o;exact⟨h5.lt,h6.lt,Pm.o.lt⟩
 have HBm:=zh (Pm.o.below pT Pm.o.lt);have kG:=zh (vw8.o.trans (pT.mono vw8.o.size));clear Uw Mk pT qjS Pe Pm vw8;obtain⟨g7,hg7⟩:=zo (W11.heap.size);rw[hg7] at HR7 GC;simp only[hg7];clear hg7;obtain⟨mK,mM,mC,mI,mJ,mL,mB,mH,hB,hE⟩:=H5a.o;obtain⟨y0,y1,y2,y3⟩:=hB.c4;have HE:=zh hE;clear hB hE;go_wp2_with fail;refine (nW _ (bu b) 1301 50647 X3 HE.o (by decide) (aI (dC Hb.o) (by decide))).mono ?_;rintro e w13 ⟨v13,rfl,Kr,vwn⟩
 obtain⟨Ig,Ii,Ia,Ic,Ie,Ih,H8,Ib,_,_,rfl,-⟩:=bS vwn;have GG:=zh (HR7.o.grow Kr);have H6b:=zh (H6a.o.grow Kr);have vx3:=zh (HBm.o.below Kr HBm.o.lt);have D4:=zh (kG.o.trans (Kr.mono kG.o.size));have vx1:=zh vwn;obtain⟨kU,kW,kQ,kS,kT,kV,kP,kR,o0,o1,o2,o3,oE⟩:=GG.o.read (i:=0) (by omega);have nO:=GG.o.frozen (0);have nN:=GG.o.frozen (1);have nM:=GG.o.frozen (2);have nL:=GG.o.frozen (3);simp only[Nat.zero_mul,Nat.zero_add] at o0 o1 o2 o3
 clear y0 y1 y2 y3 HE vwn oE Kr H5a H6a HR7 HBm kG;go_upto_region 7 with fail;have qjO:ExqAt w13 w13.heap.size (.agg (zD Ig Ii Ia Ic Ie Ih H8 Ib)) (Zx b 0) 67530:=by rw[TS];exact vx1.o
 have vwY:=zh (GG.o.write (i:=0) (by omega) qjO);have H6c:=zh (H6b.o.far4 (D:=g7) (o:=0*4) (by have:=GC.o.2.1;omega) (GG.o.kind (i:=0) (by omega)) (.bool Ig) (.slice Ii Ia Ic) (.bool Ie) (.slice Ih H8 Ib));have qjV:=zh (vx3.o.far4o (D:=g7) (by have:=GC.o.2.2;omega) (0*4) (.bool Ig) (.slice Ii Ia Ic) (.bool Ie) (.slice Ih H8 Ib));have qjW:=zh (dH (g:=g7) D4.o (by have:=GC.o.2.2;omega) (0*4) (.bool Ig) (.slice Ii Ia Ic) (.bool Ie) (.slice Ih H8 Ib))
 simp only[Nat.zero_mul,Nat.zero_add] at vwY H6c qjV qjW;clear vx1 qjO GG H6b vx3 D4 o0 o1 o2 o3 nO nN nM nL;generalize (((((w13).setCell ⟨g7,0,none⟩ (.bool Ig)).setCell ⟨g7,1,none⟩ (.slice Ii Ia Ic)).setCell ⟨g7,2,none⟩ (.bool Ie)).setCell ⟨g7,3,none⟩ (.slice Ih H8 Ib))=W14 at*;obtain⟨mK,mM,mC,mI,mJ,mL,mB,mH,hB,hE⟩:=H6c.o;obtain⟨y0,y1,y2,y3⟩:=hB.c4;have HE:=zh hE;clear hB hE;go_wp2_with fail;refine (nW _ (bu (al b)) 1301 50647 W14 HE.o (by decide) (aI (dC (lK Hb.o)) (by decide))).mono ?_
 rintro e w15 ⟨v15,rfl,Kq,vwm⟩;obtain⟨zb1,zA1,zl1,zc1,zb2,zA2,zl2,zc2,_,_,rfl,-⟩:=bS vwm;have KW:=zh (vwY.o.grow Kq);have vx2:=zh (qjV.o.below Kq qjV.o.lt);have vx5:=zh (qjW.o.trans (Kq.mono qjW.o.size));have vx0:=zh vwm;obtain⟨kU,kW,kQ,kS,kT,kV,kP,kR,o0,o1,o2,o3,oE⟩:=KW.o.read (i:=b.sup.length-1) (by omega);have nO:=KW.o.frozen ((b.sup.length-1)*4);have nN:=KW.o.frozen ((b.sup.length-1)*4+1);have nM:=KW.o.frozen ((b.sup.length-1)*4+2)
 have nL:=KW.o.frozen ((b.sup.length-1)*4+3);clear y0 y1 y2 y3 HE vwm oE Kq H6c vwY qjV qjW;go_upto_region 8 with fail;have qjK:ExqAt w15 w15.heap.size (.agg (zD zb1 zA1 zl1 zc1 zb2 zA2 zl2 zc2)) (Zx b (b.sup.length-1)) 67530:=by rw[TV Hb.o OZ.o];exact vx0.o
 have vwX:=zh (KW.o.write (i:=b.sup.length-1) (by omega) qjK);have vw6:=zh (vx2.o.far4o (D:=g7) (by have:=GC.o.2.2;omega) ((b.sup.length-1)*4) (.bool zb1) (.slice zA1 zl1 zc1) (.bool zb2) (.slice zA2 zl2 zc2));have vw7:=zh (dH (g:=g7) vx5.o (by have:=GC.o.2.2;omega) ((b.sup.length-1)*4) (.bool zb1) (.slice zA1 zl1 zc1) (.bool zb2) (.slice zA2 zl2 zc2));clear vx0 qjK KW vx2 vx5 o0 o1 o2 o3 nO nN nM nL
 generalize (((((w15).setCell ⟨g7,(b.sup.length-1)*4,none⟩ (.bool zb1)).setCell ⟨g7,(b.sup.length-1)*4+1,none⟩ (.slice zA1 zl1 zc1)).setCell ⟨g7,(b.sup.length-1)*4+2,none⟩ (.bool zb2)).setCell ⟨g7,(b.sup.length-1)*4+3,none⟩ (.slice zA2 zl2 zc2))=W16 at*;go_upto_region 9 with (at_make;refine wpList_make_full _ rfl _ _ 143 rfl _ 193 iE (.agg (zD false none 0 0 false none 0 0)) 4 Tryz.underlying143 Kn qI qH .i64 .i64 _ _ b.sup.length rfl rfl rfl rfl aZ (by unfold maxLen;omega) (Nat.le_refl _) ?_;intro w17 aK eI)
 have hb:Below W16.heap.size W16 w17:=(yB _ _).grown eI (yA _) (fun k hk=>by cases hk);have qf:Y0 (EqRow w17 W16.heap.size b.sup.length (fun _=>none) 67530):=EqRow.made aK;have vwW:=zh (vwX.o.grow hb);have vw5:=zh (vw6.o.below hb vw6.o.lt);have Dz:=zh (vw7.o.trans (hb.mono vw7.o.size));have vwO:Y0 (g7<W16.heap.size):=vwX.o.lt;clear aK eI hb vwX vw6 vw7;obtain⟨g8,hg8⟩:=zo (W16.heap.size);rw[hg8] at qf vwO
 simp only[hg8];clear hg8;go_upto_region 10 with (at_make;refine wpList_make_full _ rfl _ _ 143 rfl _ 193 iE (.agg (zD false none 0 0 false none 0 0)) 4 Tryz.underlying143 Kn qI qH .i64 .i64 _ _ b.sup.length rfl rfl rfl rfl aZ (by unfold maxLen;omega) (Nat.le_refl _) ?_;intro w18 aK eI);have hb:Below w17.heap.size w17 w18:=(yB _ _).grown eI (yA _) (fun k hk=>by cases hk);have Hy:Y0 (EqRow w18 w17.heap.size b.sup.length (fun _=>none) 51):=EqRow.made aK
 have HM:Y0 (MoQ w w18 b (zC b (some ⟨bs,os,none⟩) cs Al cl) g7 g8 w17.heap.size (uZ b 0) (fun _=>none) (fun _=>none)):=by
  have a1:=GC.o;have a2:=vwO.o;have a3:=qf.o.lt;have a4:=vwW.o.lt;exact⟨vw5.o.below hb vw5.o.lt,(vwW.o.grow hb).weak (fun j q hj h=>by
   unfold uZ at h;unfold eh;by_cases e1:j=b.sup.length-1
   ·rw[if_pos e1,←e1];rw[if_pos (by omega)] at h;exact h
   rw[if_neg e1];by_cases e2:j=0
   ·subst e2;rw[if_pos rfl];rw[if_pos (by omega)] at h;exact h
   rw[if_neg (by omega)] at h;cases h),qf.o.grow hb,Hy.o,Dz.o.trans (hb.mono Dz.o.size),a1.2.2,by omega,by omega,by omega,by omega,by omega⟩
 clear aK eI hb vwW qf Hy vw5 Dz GC vwO aZ Kn qI qH tz;obtain⟨g9,hg9⟩:=zo (w17.heap.size);rw[hg9] at HM;simp only[hg9];clear hg9;obtain⟨kU,kW,kQ,kS,kT,kV,kP,kR,o0,o1,o2,o3,oE⟩:=HM.o.r7.read (i:=0) (by omega);obtain⟨nb1,nA1,nl1,nc1,nb2,nA2,nl2,nc2,k0,k1,k2,k3,kE⟩:=HM.o.r8.read (i:=0) (by omega);have fk0:=HM.o.r8.frozen (0);have fk1:=HM.o.r8.frozen (1);have fk2:=HM.o.r8.frozen (2);have fk3:=HM.o.r8.frozen (3)
 simp only[Nat.zero_mul,Nat.zero_add] at o0 o1 o2 o3 k0 k1 k2 k3;have HE:=zh (oE (Zx b 0) (if_pos (.inl rfl)));clear oE kE;go_upto_region 11 with fail;have DK:=zh (HM.o.put8 (i:=0) (o:=0) (by omega) rfl HE.o);simp only[Nat.zero_add] at DK;clear HM HE o0 o1 o2 o3 k0 k1 k2 k3 fk0 fk1 fk2 fk3;generalize (((((w18).setCell ⟨g8,0,none⟩ (.bool kU)).setCell ⟨g8,1,none⟩ (.slice kW kQ kS)).setCell ⟨g8,2,none⟩ (.bool kT)).setCell ⟨g8,3,none⟩ (.slice kV kP kR))=W19 at*
 go_wp2_with fail;refine (wM W19).mono ?_;rintro e w20 ⟨v20,rfl,vxx,vwl⟩;obtain⟨Ig,Ii,Ia,Ic,Ie,Ih,H8,Ib,_,_,rfl,-⟩:=bS vwl;have HM3:=zh (DK.o.grow vxx);have HE:=zh (vwl.more (K':=51) (by decide));clear vwl vxx DK;obtain⟨nb1,nA1,nl1,nc1,nb2,nA2,nl2,nc2,k0,k1,k2,k3,kE⟩:=HM3.o.r9.read (i:=0) (by omega);have fk0:=HM3.o.r9.frozen (0);have fk1:=HM3.o.r9.frozen (1);have fk2:=HM3.o.r9.frozen (2);have fk3:=HM3.o.r9.frozen (3)
 simp only[Nat.zero_mul,Nat.zero_add] at k0 k1 k2 k3;clear kE;go_wp2_with fail;have HM4:=HM3.o.put9 (i:=0) (o:=0) (by omega) rfl HE.o;simp only[Nat.zero_add] at HM4;have MO:Y0 (MoQ w (((((w20).setCell ⟨g9,0,none⟩ (.bool Ig)).setCell ⟨g9,1,none⟩ (.slice Ii Ia Ic)).setCell ⟨g9,2,none⟩ (.bool Ie)).setCell ⟨g9,3,none⟩ (.slice Ih H8 Ib)) b (zC b (some ⟨bs,os,none⟩) cs Al cl) g7 g8 g9 (uZ b 0) (pF b 0) (qF b 0)):=HM4.weak (fun _ _ _ h=>h) (fun j q _ h=>by
  unfold pF at h;by_cases e:j=0
  ·subst e;rw[if_pos (yA _)] at h;rw[←h];exact if_pos rfl
  ·rw[if_neg (by omega)] at h;cases h) (fun j q _ h=>by
  unfold qF at h;by_cases e:j=0
  ·subst e;rw[if_pos (yA _)] at h;rw[←h];exact if_pos rfl
  rw[if_neg (by omega)] at h;cases h)
 clear HM3 HM4 HE k0 k1 k2 k3 fk0 fk1 fk2 fk3;generalize (((((w20).setCell ⟨g9,0,none⟩ (.bool Ig)).setCell ⟨g9,1,none⟩ (.slice Ii Ia Ic)).setCell ⟨g9,2,none⟩ (.bool Ie)).setCell ⟨g9,3,none⟩ (.slice Ih H8 Ib))=W21 at*;go_loopw [10] (fun ix wr=>∃k:Nat,(k=0∨k+2≤b.sup.length)∧ix=.int .i64 ((k:Int)+1)∧Y0 (MoQ w wr b (zC b (some ⟨bs,os,none⟩) cs Al cl) g7 g8 g9 (uZ b 0) (pF b k) (qF b k))) (fun ix _=>b.sup.length-(intOf ix).toNat)
 case atStart=>exact⟨0,.inl rfl,rfl,MO⟩
 clear MO;obtain⟨k,hk,rfl,HM⟩:=hrel;have k9:(k:Int)+1≤10:=by omega
 have kk0:(0:Int)≤(k:Int):=yE _;by_cases ay:k+2<b.sup.length
 ·skip
  have k1:(k:Int)+1<(b.sup.length:Int)-1:=by omega
  have a1:=(HM.o.bel.cell (p:=⟨bs,os+k,none⟩) gg).trans (np.o k (by omega));obtain⟨ii,hii⟩:=zo (k+1);have a2:=(HM.o.bel.cell (p:=⟨bs,os+(k+1),none⟩) gg).trans (np.o (k+1) (by omega));have a3:=(HM.o.bel.cell (p:=⟨bs,os+(k+2),none⟩) gg).trans (np.o (k+2) (by omega));have t0:=Hb.o.sup k (by omega);have t1:=Hb.o.inc k (by omega);have t2:=Hb.o.inc (k+1) (by omega);have t3:=Hb.o.sup (k+2) (by omega);have HK:Y0 (aX b (k+1)=ah b (k+1)-ah b k):=rfl
  have HN:Y0 (aX b (k+2)=ah b (k+2)-ah b (k+1)):=rfl;have HRH:=zh (qqg b k);rw[show k+1+1=k+2 from rfl] at t2;have HZ1:=zh (np.o k (by omega));have HZ2:=zh (np.o (k+1) (by omega));have HZ3:=zh (np.o (k+2) (by omega));have e1:(k:Int)+1=(ii:Int):=by omega
  rw[e1] at k1 k9;rw[e1];have i0:(0:Int)≤(ii:Int):=yE _;have i4:(ii:Int)<(b.sup.length:Int):=by omega
  have i1:ii<b.sup.length:=by omega
  generalize ah b k=sp at*;generalize ah b (k+1)=sq at*;generalize ah b (k+2)=sr at*;obtain⟨t01,t02⟩:=t0;obtain⟨t31,t32⟩:=t3;have i3:((k:Int)+2).toNat=k+2:=by omega
  have i5:(k:Int)<(b.sup.length:Int):=by omega
  have i7:(k:Int)+2<(b.sup.length:Int):=by omega
  have i9:(0:Int)≤(k:Int)+2:=by omega
  have v1:IntKind.i64.wrap ((ii:Int)-1)=(k:Int):=(yF _ (by omega)).trans (by omega);have v2:IntKind.i64.wrap ((ii:Int)+1)=(k:Int)+2:=(yF _ (by omega)).trans (by omega);have v3:IntKind.i64.wrap (sq-sp)=sq-sp:=yF _ (by omega);have v4:IntKind.i64.wrap (sr-sq)=sr-sq:=yF _ (by omega);rw[hii] at a2 HZ2;have Hii:=zh hii;clear hii e1;go_upto_region 15 with fail;go_quiet (fail);go_upto_region 16 with fail;generalize hdw:wr.drewN nq=W22 at*
  have WC:Y0 (MoQ w W22 b (zC b (some ⟨bs,os,none⟩) cs Al cl) g7 g8 g9 (uZ b 0) (pF b k) (qF b k)):=by rw[←hdw];exact HM.o.grow (Zf (yB _ _) _)
  clear hdw a1 a2 a3 HM;obtain⟨y0,y1,y2,y3,y4⟩:=WC.o.bm.c5;have z1:=(WC.o.bel.cell (p:=⟨bs,os+k,none⟩) gg).trans HZ1.o;have z2:=(WC.o.bel.cell (p:=⟨bs,os+ii,none⟩) gg).trans HZ2.o;have z3:=(WC.o.bel.cell (p:=⟨bs,os+(k+2),none⟩) gg).trans HZ3.o;have HV:=zh (HVw.o.grow WC.o.bel);have zL:=YL y0;have zK:=YL y1;have AE:=YL y2;have AB:=YL y3;have uy4:=YL y4;have uz1:=YL z1;have uz2:=YL z2;have uz3:=YL z3
  clear y0 y1 y2 y3 y4 z1 z2 z3;refine af 26 (fun jx=>if jx=0 then some (jU (0) (30)) else if jx=11 then some (jU (cH b sp sq true) (1270)) else if jx=22 then some (jU (cH b sq sr false) (1270)) else if jx=23 then some (jU (cH b sp sq true+cH b sq sr false) (2541)) else if jx=24 then some (jU (0-(cH b sp sq true+cH b sq sr false)) (2572)) else if jx=25 then some (gAq W22.heap.size) else none) (by kernel_rfl) (by kernel_rfl) ?_
  simp only[aM,aP,aN,aO];refine ae rfl rfl ?_ ?_
  ·intro w1 ak hk;have hC:=wM w1;exact zc (Zg hC)
  rintro _ ⟨QI,QK,QE,QG,QH,QJ,QD,QF,rfl⟩;simp only[Act.put,aC,aB,aA];refine zw 10 ?_;simp only[aM,aP,aN,aO]
  repeat (go_big_quiet_step (fail))
  refine YE ?_;refine ae rfl rfl ?_ ?_
  ·intro w1 ak hk;have hC:=qqm _ b sp sq w1 (HV.o.grow ak) Hb.o (by omega) (by omega) (by omega);exact zc (Zg hC)
  rintro _ ⟨qkf,qkh,qkb,qkd,qke,qkg,qka,qkc,rfl⟩;simp only[Act.put,aC,aB,aA];refine zw 10 ?_;simp only[aM,aP,aN,aO]
  repeat (go_big_quiet_step (fail))
  refine YE ?_;refine ae rfl rfl ?_ ?_
  ·intro w1 ak hk;have hC:=qqn _ b sq sr w1 (HV.o.grow ak) Hb.o (by omega) (by omega) (by omega);exact zc (Zg hC)
  rintro _ ⟨JU,JW,JO,JR,JS,JV,JN,JQ,rfl⟩;simp only[Act.put,aC,aB,aA];refine ae rfl rfl ?_ ?_
  ·intro w1 ak hk;have h97:ExqAt w1 w1.heap.size (.agg (zD qkf qkh qkb qkd qke qkg qka qkc)) (cH b sp sq true) (1270):=hk 97 zk;have vwx:ExqAt w1 w1.heap.size (.agg (zD JU JW JO JR JS JV JN JQ)) (cH b sq sr false) (1270):=hk 108 zk;have hC:=iX _ _ _ _ 1270 1270 w1 h97 vwx (by decide);exact zc (Zg hC)
  rintro _ ⟨JK,JM,JG,JI,JJ,JL,JF,JH,rfl⟩;simp only[Act.put,aC,aB,aA];refine ae rfl rfl ?_ ?_
  ·intro w1 ak hk;have h86:ExqAt w1 w1.heap.size (.agg (zD QI QK QE QG QH QJ QD QF)) (0) (30):=hk 86 zk;have vww:ExqAt w1 w1.heap.size (.agg (zD JK JM JG JI JJ JL JF JH)) (cH b sp sq true+cH b sq sr false) (2541):=hk 109 zk;have hC:=kM _ _ _ _ 30 2541 w1 h86 vww (by decide);exact zc (Zg hC)
  rintro _ ⟨JC,JE,J8,JA,JB,JD,J7,J9,rfl⟩;simp only[Act.put,aC,aB,aA];refine aV rfl rfl (fun w1 ak _=>vO ak.size (by go_simp)) ?_;rintro _ ⟨Aj,rfl⟩;simp only[Act.put,aC,aB,aA];refine Zc ?_;intro w8 aJ hF;have kD:ExqAt w8 w8.heap.size (.agg (zD JC JE J8 JA JB JD J7 J9)) (0-(cH b sp sq true+cH b sq sr false)) 2572:=hF 110;have h5:zJ W22.heap.size (.pointer (some ⟨Aj,0,none⟩)) w8:=hF 13;obtain⟨g5',e5,Oj,eb⟩:=h5
  injection e5 with e5;injection e5 with e5;injection e5 with e5 _ _;subst e5;obtain⟨q0,q1,q2,q3⟩:=eb.c4;have CQ:=eb.frozen (0);have CP:=eb.frozen (1);have CO:=eb.frozen (2);have CN:=eb.frozen (3);have hEq:=HRH.o;rw[hEq] at kD;have qjR:=zh (EqBox.first eb kD);have HM7:=WC.o.grow aJ;have l7:=WC.o.r7.lt;have l8:=WC.o.r8.lt;have l9:=WC.o.r9.lt;have l0:=WC.o.b7;have HM8:=zh (HM7.far (D:=Aj) (by omega) (by omega) (by omega) (by omega) eb.kind (.bool JC) (.slice JE J8 JA) (.bool JB) (.slice JD J7 J9))
  have ZY:Y0 (g7<Aj∧g8<Aj∧g9<Aj):=by unfold Y0;omega
  clear hF kD eb hEq zL zK AE AB uy4 uz1 uz2 uz3 aJ Oj HM7 l7 l8 l9 l0 WC HRH HZ1 HZ2 HZ3 HV;go_upto_region 17 with fail;generalize (((((w8).setCell ⟨Aj,0,none⟩ (.bool JC)).setCell ⟨Aj,1,none⟩ (.slice JE J8 JA)).setCell ⟨Aj,2,none⟩ (.bool JB)).setCell ⟨Aj,3,none⟩ (.slice JD J7 J9))=W23 at*;clear q0 q1 q2 q3 CQ CP CO CN;obtain⟨mK,mM,mC,mI,mJ,mL,mB,mH,hB,hE⟩:=qjR.o;obtain⟨y0,y1,y2,y3⟩:=hB.c4;have HE:=zh hE
  obtain⟨kU,kW,kQ,kS,kT,kV,kP,kR,o0,o1,o2,o3,oE⟩:=HM8.o.r8.read (i:=k) (by omega);have HO:=zh (oE (jA b k).1 (if_pos (yA _)));have kZ:(sq-sp).natAbs≤1152921504606846976:=by omega
  clear oE hE hB;have zL:=YL y0;have zK:=YL y1;have AE:=YL y2;have AB:=YL y3;have uo0:=YL o0;have uo1:=YL o1;have uo2:=YL o2;have uo3:=YL o3;clear y0 y1 y2 y3 o0 o1 o2 o3;refine af 11 (fun jx=>if jx=2 then some (gI [sq-sp]) else if jx=3 then some (jU (Zu 1 [sq-sp]) (30)) else if jx=9 then some (jU (Zu 1 [sq-sp]*(jA b k).1) (67560)) else if jx=10 then some (jU (ki b (k+1)-Zu 1 [sq-sp]*(jA b k).1) (70133)) else none) (by kernel_rfl) (by kernel_rfl) ?_
  simp only[aM,aP,aN,aO];refine zw 2 ?_;simp only[aM,aP,aN,aO]
  repeat (go_big_quiet_step (fail))
  refine YE ?_;refine aV rfl rfl (fun w1 ak _=>fG (T:=3) (l:=[sq-sp]) (yU rfl) (by go_simp)) ?_;rintro _ ⟨vvp,rfl⟩;simp only[Act.put,aC,aB,aA];refine ae rfl rfl ?_ ?_
  ·intro w1 ak hk;have vwv:bg w1 w1.heap.size (.slice (some ⟨vvp,0,none⟩) 1 1) [sq-sp]:=hk 113 zk;have hC:=gj 1 _ [sq-sp] w1 vwv (yU rfl) (Ea kZ) (by decide) (by decide);exact zc (Zg hC)
  rintro _ ⟨J4,J6,J0,J2,J3,J5,Jz,J1,rfl⟩;simp only[Act.put,aC,aB,aA];refine zw 5 ?_;simp only[aM,aP,aN,aO]
  repeat (go_big_quiet_step (fail))
  refine YE ?_;refine ae rfl rfl ?_ ?_
  ·intro w1 ak hk;have vve:ExqAt w1 w1.heap.size (.agg (zD J4 J6 J0 J2 J3 J5 Jz J1)) (Zu 1 [sq-sp]) (30):=hk 114 zk;have hC:=rF _ _ _ _ 30 67530 w1 vve (HO.o.grow ak) (by decide);exact zc (Zg hC)
  rintro _ ⟨qve,qvg,qva,qvc,qvd,qvf,qz9,qvb,rfl⟩;simp only[Act.put,aC,aB,aA];refine ae rfl rfl ?_ ?_
  ·intro w1 ak hk;have vvb:ExqAt w1 w1.heap.size (.agg (zD qve qvg qva qvc qvd qvf qz9 qvb)) (Zu 1 [sq-sp]*(jA b k).1) (67560):=hk 120 zk;have hC:=kM _ _ _ _ 2572 67560 w1 (HE.o.grow ak) vvb (by decide);exact zc (Zg hC)
  rintro _ ⟨Jn,Jp,Jj,Jl,Jm,Jo,Ji,Jk,rfl⟩;simp only[Act.put,aC,aB,aA];refine Zc ?_;intro w8 aJ hF;have kD:ExqAt w8 w8.heap.size (.agg (zD Jn Jp Jj Jl Jm Jo Ji Jk)) (ki b (k+1)-Zu 1 [sq-sp]*(jA b k).1) 70133:=hF 121;have HX9:=qjR.o.grow aJ;obtain⟨_,_,_,_,_,_,_,_,eb,-⟩:=qjR.o.grow aJ;have Wu:=zh (HX9.put kD);have HM9:=zh ((HM8.o.grow aJ).far (D:=Aj) (by have:=ZY.o;have:=HM8.o.b7;omega) (by have:=ZY.o;omega) (by have:=ZY.o;omega) (by have:=ZY.o;omega) HX9.kind (.bool Jn) (.slice Jp Jj Jl) (.bool Jm) (.slice Jo Ji Jk))
  obtain⟨q0,q1,q2,q3⟩:=eb.c4;have CQ:=eb.frozen (0);have CP:=eb.frozen (1);have CO:=eb.frozen (2);have CN:=eb.frozen (3);clear hF kD eb HX9 zL zK AE AB uo0 uo1 uo2 uo3 aJ HM8 qjR HE HO;go_upto_region 18 with fail;generalize (((((w8).setCell ⟨Aj,0,none⟩ (.bool Jn)).setCell ⟨Aj,1,none⟩ (.slice Jp Jj Jl)).setCell ⟨Aj,2,none⟩ (.bool Jm)).setCell ⟨Aj,3,none⟩ (.slice Jo Ji Jk))=W24 at*;clear q0 q1 q2 q3 CQ CP CO CN
  obtain⟨kU,kW,kQ,kS,kT,kV,kP,kR,o0,o1,o2,o3,oE⟩:=HM9.o.r9.read (i:=k) (by omega);have HO:=zh (oE (jA b k).2 (if_pos (yA _)));have v5:IntKind.i64.wrap ((sq-sp)+(sr-sq))=(sq-sp)+(sr-sq):=yF _ (by omega);have jT:((sq-sp)+(sr-sq)).natAbs≤1152921504606846976:=by omega
  clear oE;have uo0:=YL o0;have uo1:=YL o1;have uo2:=YL o2;have uo3:=YL o3;clear o0 o1 o2 o3;refine af 16 (fun jx=>if jx=3 then some (gI [2,(sq-sp)+(sr-sq)]) else if jx=4 then some (jU (Zu 1 [2,(sq-sp)+(sr-sq)]) (30)) else if jx=6 then some (gI [sq-sp]) else if jx=7 then some (jU (Zu 1 [sq-sp]) (30)) else if jx=13 then some (jU (Zu 1 [sq-sp]*(jA b k).2) (81)) else if jx=14 then some (jU (Zu 1 [2,(sq-sp)+(sr-sq)]-Zu 1 [sq-sp]*(jA b k).2) (112)) else if jx=15 then some (gAq W24.heap.size) else none) (by kernel_rfl) (by kernel_rfl) ?_
  simp only[aM,aP,aN,aO];refine zw 3 ?_;simp only[aM,aP,aN,aO]
  repeat (go_big_quiet_step (fail))
  refine YE ?_;refine aV rfl rfl (fun w1 ak _=>fG (T:=3) (l:=[2,(sq-sp)+(sr-sq)]) (yU rfl) (by go_simp)) ?_;rintro _ ⟨vvo,rfl⟩;simp only[Act.put,aC,aB,aA];refine ae rfl rfl ?_ ?_
  ·intro w1 ak hk;have Zk:bg w1 w1.heap.size (.slice (some ⟨vvo,0,none⟩) 2 2) [2,(sq-sp)+(sr-sq)]:=hk 125 zk;have hC:=gj 1 _ [2,(sq-sp)+(sr-sq)] w1 Zk (yU rfl) (AI (by decide) jT) (by decide) (by decide);exact zc (Zg hC)
  rintro _ ⟨qzQ,qzS,qzM,qzO,qzP,qzR,qzL,qzN,rfl⟩;simp only[Act.put,aC,aB,aA];refine zw 1 ?_;simp only[aM,aP,aN,aO]
  repeat (go_big_quiet_step (fail))
  refine YE ?_;refine aV rfl rfl (fun w1 ak _=>fG (T:=3) (l:=[sq-sp]) (yU rfl) (by go_simp)) ?_;rintro _ ⟨vvn,rfl⟩;simp only[Act.put,aC,aB,aA];refine ae rfl rfl ?_ ?_
  ·intro w1 ak hk;have vwt:bg w1 w1.heap.size (.slice (some ⟨vvn,0,none⟩) 1 1) [sq-sp]:=hk 128 zk;have hC:=gj 1 _ [sq-sp] w1 vwt (yU rfl) (Ea kZ) (by decide) (by decide);exact zc (Zg hC)
  rintro _ ⟨Jf,Jh,Jb,Jd,Je,Jg,Ja,Jc,rfl⟩;simp only[Act.put,aC,aB,aA];refine zw 5 ?_;simp only[aM,aP,aN,aO]
  repeat (go_big_quiet_step (fail))
  refine YE ?_;refine ae rfl rfl ?_ ?_
  ·intro w1 ak hk;have vws:ExqAt w1 w1.heap.size (.agg (zD Jf Jh Jb Jd Je Jg Ja Jc)) (Zu 1 [sq-sp]) (30):=hk 129 zk;have hC:=rF _ _ _ _ 30 51 w1 vws (HO.o.grow ak) (by decide);exact zc (Zg hC)
  rintro _ ⟨qzs,qzu,qzo,qzq,qzr,qzt,qzn,qzp,rfl⟩;simp only[Act.put,aC,aB,aA];refine ae rfl rfl ?_ ?_
  ·intro w1 ak hk;have vz8:ExqAt w1 w1.heap.size (.agg (zD qzQ qzS qzM qzO qzP qzR qzL qzN)) (Zu 1 [2,(sq-sp)+(sr-sq)]) (30):=hk 126 zk;have vz6:ExqAt w1 w1.heap.size (.agg (zD qzs qzu qzo qzq qzr qzt qzn qzp)) (Zu 1 [sq-sp]*(jA b k).2) (81):=hk 135 zk;have hC:=kM _ _ _ _ 30 81 w1 vz8 vz6 (by decide);exact zc (Zg hC)
  rintro _ ⟨Cs,Cu,Co,Cq,Cr,Ct,Cn,Cp,rfl⟩;simp only[Act.put,aC,aB,aA];refine aV rfl rfl (fun w1 ak _=>vO ak.size (by go_simp)) ?_;rintro _ ⟨Xk,rfl⟩;simp only[Act.put,aC,aB,aA];refine Zc ?_;intro w8 aJ hF;have kD:ExqAt w8 w8.heap.size (.agg (zD Cs Cu Co Cq Cr Ct Cn Cp)) (Zu 1 [2,(sq-sp)+(sr-sq)]-Zu 1 [sq-sp]*(jA b k).2) 112:=hF 136;have h5:zJ W24.heap.size (.pointer (some ⟨Xk,0,none⟩)) w8:=hF 14;obtain⟨g5',e5,Oj,eb⟩:=h5
  injection e5 with e5;injection e5 with e5;injection e5 with e5 _ _;subst e5;obtain⟨q0,q1,q2,q3⟩:=eb.c4;have CQ:=eb.frozen (0);have CP:=eb.frozen (1);have CO:=eb.frozen (2);have CN:=eb.frozen (3);have hEq:Zu 1 [2,(sq-sp)+(sr-sq)]-Zu 1 [sq-sp]*(jA b k).2=qB b (jA b k).2 (k+1):=by
   unfold qB;rw[N9,rG,HK.o,HN.o]
  rw[hEq] at kD;have vwS:=zh (EqBox.first eb kD);have HM7:=HM9.o.grow aJ;have l7:=HM9.o.r7.lt;have l8:=HM9.o.r8.lt;have l9:=HM9.o.r9.lt;have l0:=HM9.o.b7;have HM8:=zh (HM7.far (D:=Xk) (by omega) (by omega) (by omega) (by omega) eb.kind (.bool Cs) (.slice Cu Co Cq) (.bool Cr) (.slice Ct Cn Cp));have l13:Aj<W24.heap.size:=by
   obtain⟨_,_,_,_,_,_,_,_,h,-⟩:=Wu.o;exact h.lt
  have vwP:Y0 (g7<Xk∧g8<Xk∧g9<Xk):=by unfold Y0;omega
  have Wt:=zh ((Wu.o.grow aJ).far4 (D:=Xk) (by omega) eb.kind (.bool Cs) (.slice Cu Co Cq) (.bool Cr) (.slice Ct Cn Cp));clear hF kD eb hEq uo0 uo1 uo2 uo3 aJ Oj HM7 l7 l8 l9 l0 l13 HM9 Wu HO v5 jT;go_upto_region 19 with fail;simp only[Nat.zero_add] at Wt;generalize (((((w8).setCell ⟨Xk,0,none⟩ (.bool Cs)).setCell ⟨Xk,1,none⟩ (.slice Cu Co Cq)).setCell ⟨Xk,2,none⟩ (.bool Cr)).setCell ⟨Xk,3,none⟩ (.slice Ct Cn Cp))=W25 at*
  clear q0 q1 q2 q3 CQ CP CO CN;obtain⟨mK,mM,mC,mI,mJ,mL,mB,mH,hB,hE⟩:=Wt.o;obtain⟨y0,y1,y2,y3⟩:=hB.c4;obtain⟨Qj,Ql,Pr,Qh,Qi,Qk,Pq,Qg,sd,zO⟩:=vwS.o;obtain⟨t0,t1,t2,t3⟩:=sd.c4;have HE:=zh hE;have iq:=zh zO;clear hB sd hE zO;go_wp2_with fail;refine (Ls _ _ _ _ 70133 112 W25 HE.o iq.o (LO Hb.o ay) (by decide)).mono ?_;rintro e w26 ⟨v26,rfl,vwi,YW⟩;obtain⟨Ig,Ii,Ia,Ic,Ie,Ih,H8,Ib,_,_,rfl,-⟩:=bS YW;have KY:=zh (HM8.o.grow vwi)
  have qjE:=zh (vwS.o.grow vwi);have Yx:=qvX b k;rw[HK.o] at Yx;rw[Yx] at YW;have vxZ:=zh YW;clear YW vwi HM8 vwS Wt HE iq y0 y1 y2 y3 t0 t1 t2 t3 Yx;go_wp2_with fail;refine (nW _ (jA b (k+1)).1 70245 5200 w26 vxZ.o (by decide) (LI Hb.o (sC Hb.o) (k+1) (by omega)).1).mono ?_;rintro e w27 ⟨v27,rfl,vwh,vwk⟩;obtain⟨zb1,zA1,zl1,zc1,zb2,zA2,zl2,zc2,_,_,rfl,-⟩:=bS vwk;have Du:=zh (KY.o.grow vwh);have Ws:=zh (qjE.o.grow vwh)
  have vxY:=zh (vwk.more (K':=67530) (by decide));clear vwk vwh KY qjE vxZ;obtain⟨kU,kW,kQ,kS,kT,kV,kP,kR,o0,o1,o2,o3,oE⟩:=Du.o.r8.read (i:=ii) (by omega);have nO:=Du.o.r8.frozen (ii*4);have nN:=Du.o.r8.frozen (ii*4+1);have nM:=Du.o.r8.frozen (ii*4+2);have nL:=Du.o.r8.frozen (ii*4+3);clear oE;go_upto_region 20 with fail;have vxR:=zh (Du.o.put8 (i:=ii) (o:=ii*4) i1 rfl vxY.o);obtain⟨Qj,Ql,Pr,Qh,Qi,Qk,Pq,Qg,sd,zO⟩:=Ws.o
  have qjD:=zh (Ws.o.far4 (D:=g8) (o:=ii*4) (by have:=Du.o.r8.lt;have:=vwP.o;omega) (Du.o.r8.kind (i:=ii) i1) (.bool zb1) (.slice zA1 zl1 zc1) (.bool zb2) (.slice zA2 zl2 zc2));clear Du vxY Ws sd zO o0 o1 o2 o3 nO nN nM nL;generalize (((((w27).setCell ⟨g8,ii*4,none⟩ (.bool zb1)).setCell ⟨g8,ii*4+1,none⟩ (.slice zA1 zl1 zc1)).setCell ⟨g8,ii*4+2,none⟩ (.bool zb2)).setCell ⟨g8,ii*4+3,none⟩ (.slice zA2 zl2 zc2))=W28 at*
  obtain⟨Qj,Ql,Pr,Qh,Qi,Qk,Pq,Qg,sd,zO⟩:=qjD.o;obtain⟨t0,t1,t2,t3⟩:=sd.c4;have iq:=zh zO;have jT:(sr-sq).natAbs≤1152921504606846976:=by omega
  have Yx:=qvW b k;rw[HN.o] at Yx;have HPQ:=zh Yx;clear Yx;have HFi:=zh (LI Hb.o (sC Hb.o) (k+1) (by omega)).2;clear sd zO;have ut0:=YL t0;have ut1:=YL t1;have ut2:=YL t2;have ut3:=YL t3;clear t0 t1 t2 t3;refine af 9 (fun jx=>if jx=3 then some (gI [sr-sq]) else if jx=4 then some (jU (Zu 1 [sr-sq]) (30)) else if jx=6 then some (jU ((jA b (k+1)).2) (142)) else if jx=7 then some (jU ((jA b (k+1)).2) (51)) else none) (by kernel_rfl) (by kernel_rfl) ?_
  simp only[aM,aP,aN,aO];refine zw 3 ?_;simp only[aM,aP,aN,aO]
  repeat (go_big_quiet_step (fail))
  refine YE ?_;refine aV rfl rfl (fun w1 ak _=>fG (T:=3) (l:=[sr-sq]) (yU rfl) (by go_simp)) ?_;rintro _ ⟨vvm,rfl⟩;simp only[Act.put,aC,aB,aA];refine ae rfl rfl ?_ ?_
  ·intro w1 ak hk;have vz4:bg w1 w1.heap.size (.slice (some ⟨vvm,0,none⟩) 1 1) [sr-sq]:=hk 147 zk;have hC:=gj 1 _ [sr-sq] w1 vz4 (yU rfl) (Ea jT) (by decide) (by decide);exact zc (Zg hC)
  rintro _ ⟨IL,IQ,IG,IJ,IK,IP,IE,II,rfl⟩;simp only[Act.put,aC,aB,aA];refine zw 1 ?_;simp only[aM,aP,aN,aO]
  repeat (go_big_quiet_step (fail))
  refine YE ?_;refine ae rfl rfl ?_ ?_
  ·intro w1 ak hk;have vwr:ExqAt w1 w1.heap.size (.agg (zD IL IQ IG IJ IK IP IE II)) (Zu 1 [sr-sq]) (30):=hk 148 zk;have hC:=Ls _ _ _ _ 30 112 w1 vwr (iq.o.grow ak) (LO Hb.o ay) (by decide);rw[HPQ.o] at hC;exact zc (Zg hC)
  rintro _ ⟨xa,xf,wW,wY,wZ,xc,wV,wX,rfl⟩;simp only[Act.put,aC,aB,aA];refine ae rfl rfl ?_ ?_
  ·intro w1 ak hk;have Zi:ExqAt w1 w1.heap.size (.agg (zD xa xf wW wY wZ xc wV wX)) ((jA b (k+1)).2) (142):=hk 150 zk;have hC:=nW _ _ 142 38 w1 Zi (by decide) HFi.o;exact zc (Zg hC)
  rintro _ ⟨SN,SP,SI,SK,SL,SO,SH,SJ,rfl⟩;simp only[Act.put,aC,aB,aA];refine zw 1 ?_;simp only[aM,aP,aN,aO]
  repeat (go_big_quiet_step (fail))
  refine YE ?_;refine Zc ?_;intro w8 aJ hF;have kD:ExqAt w8 w8.heap.size (.agg (zD SN SP SI SK SL SO SH SJ)) (jA b (k+1)).2 51:=hF 151;have qZ:=zh (vxR.o.grow aJ);have HE:=zh kD;clear hF kD aJ vxR qjD iq ut0 ut1 ut2 ut3 HPQ HFi;obtain⟨kU,kW,kQ,kS,kT,kV,kP,kR,o0,o1,o2,o3,oE⟩:=qZ.o.r9.read (i:=ii) (by omega);have nO:=qZ.o.r9.frozen (ii*4);have nN:=qZ.o.r9.frozen (ii*4+1);have nM:=qZ.o.r9.frozen (ii*4+2)
  have nL:=qZ.o.r9.frozen (ii*4+3);clear oE;go_wp2_with fail;have vw2:Y0 (MoQ w (((((w8).setCell ⟨g9,ii*4,none⟩ (.bool SN)).setCell ⟨g9,ii*4+1,none⟩ (.slice SP SI SK)).setCell ⟨g9,ii*4+2,none⟩ (.bool SL)).setCell ⟨g9,ii*4+3,none⟩ (.slice SO SH SJ)) b (zC b (some ⟨bs,os,none⟩) cs Al cl) g7 g8 g9 (uZ b 0) (pF b (k+1)) (qF b (k+1))):=(qZ.o.put9 (i:=ii) (o:=ii*4) i1 rfl HE.o).weak (fun _ _ _ h=>h) (fun j q _ h=>by
   unfold pF at h;unfold eh pF;rw[←Hii.o];by_cases e:j=k+1
   ·subst e;rw[if_pos (yA _)] at h;rw[if_pos rfl];exact h
   ·rw[if_neg e];by_cases e2:j≤k
    ·rw[if_pos (by omega)] at h;rw[if_pos e2];exact h
    rw[if_neg (by omega)] at h;cases h) (fun j q _ h=>by
   unfold qF at h;unfold eh qF;rw[←Hii.o];by_cases e:j=k+1
   ·subst e;rw[if_pos (yA _)] at h;rw[if_pos rfl];exact h
   rw[if_neg e];by_cases e2:j≤k
   ·rw[if_pos (by omega)] at h;rw[if_pos e2];exact h
   rw[if_neg (by omega)] at h;cases h)
  clear qZ HE o0 o1 o2 o3 nO nN nM nL;go_roundw
  case rel=>exact⟨k+1,.inr (by omega),by go_num,vw2⟩
  have:=Hii.o;simp[intOf];omega
 skip
 have k1:¬(k:Int)+1<(b.sup.length:Int)-1:=by omega
 have Hkl:Y0 (¬k+2<b.sup.length):=ay;have v6:IntKind.i64.wrap ((b.sup.length:Int)-2)=((b.sup.length-1:Nat):Int)-1:=(yF _ (by omega)).trans (by omega);have HM1:Y0 (MoQ w wr b (zC b (some ⟨bs,os,none⟩) cs Al cl) g7 g8 g9 (uZ b (b.sup.length-1-(b.sup.length-1))) (pF b k) (qF b k)):=by rw[Nat.sub_self];exact HM
 clear HM ay;go_wp2_with fail;go_loopw [15] (fun ix wr=>∃i:Nat,i+1≤b.sup.length∧ix=.int .i64 ((i:Int)-1)∧Y0 (MoQ w wr b (zC b (some ⟨bs,os,none⟩) cs Al cl) g7 g8 g9 (uZ b (b.sup.length-1-i)) (pF b k) (qF b k))) (fun ix _=>(intOf ix).toNat)
 case atStart=>exact⟨b.sup.length-1,by omega,rfl,HM1⟩
 clear HM1;obtain⟨i,hi,rfl,HM⟩:=hrel;by_cases hi2:2≤i
 ·skip
  obtain⟨p,rfl⟩:∃p,i=p+2:=⟨i-2,by omega⟩;obtain⟨jj,hjj⟩:=zo (p+1);obtain⟨ll,hll⟩:=zo (p+2);have e1:((p+2:Nat):Int)-1=(jj:Int):=by omega
  rw[e1];have hj1:1≤jj:=by omega
  have i0:(0:Int)<(jj:Int):=by omega
  have i00:(0:Int)≤(jj:Int):=by omega
  have i4:(jj:Int)<(b.sup.length:Int):=by omega
  have i5:(0:Int)≤(ll:Int):=by omega
  have i6:(ll:Int)<(b.sup.length:Int):=by omega
  have v1:IntKind.i64.wrap ((jj:Int)+1)=(ll:Int):=(yF _ (by omega)).trans (by omega);have v2:IntKind.i64.wrap ((jj:Int)-1)=((jj:Nat):Int)-1:=yF _ (by omega);have Hjj:=zh hjj;have Hll:=zh hll;have j1:jj<b.sup.length:=by omega
  have l1:ll<b.sup.length:=by omega
  have HMs:Y0 ((jA b jj).1-(jA b jj).2*Zx b ll=Zx b jj):=by
   unfold Y0
   have:=TU Hb.o (i:=jj) hj1 (by omega);rw[show jj+1=ll by omega] at this;exact this
  have HFi:=zh (Yj Hb.o j1);obtain⟨ab1,aA1,al1,ac1,ab2,aA2,al2,ac2,a0,a1,a2,a3,aE⟩:=HM.o.r8.read (i:=jj) j1;obtain⟨cb1,cA1,cl1,cc1,cb2,cA2,cl2,cc2,c0,c1,c2,c3,cE⟩:=HM.o.r9.read (i:=jj) j1;obtain⟨db1,dA1,dl1,dc1,db2,dA2,dl2,dc2,d0,d1,d2,d3,dE⟩:=HM.o.r7.read (i:=ll) l1;have HA:=zh (aE (jA b jj).1 (if_pos (by have:=Hkl.o;omega)));have HC:=zh (cE (jA b jj).2 (if_pos (by have:=Hkl.o;omega)));have HD:=zh (dE (Zx b ll) (if_pos (.inr (by omega))))
  clear aE cE dE e1 hjj hll;go_upto_region 24 with fail;have wE:=YL a0;have wD:=YL a1;have wC:=YL a2;have wB:=YL a3;have Nf:=YL c0;have Ip:=YL c1;have Nc:=YL c2;have DU:=YL c3;have Qc:=YL d0;have Qb:=YL d1;have Qa:=YL d2;have PZ:=YL d3;clear a0 a1 a2 a3 c0 c1 c2 c3 d0 d1 d2 d3;refine af 19 (fun jx=>if jx=15 then some (jU ((jA b jj).2*Zx b ll) (67581)) else if jx=16 then some (jU (Zx b jj) (135112)) else if jx=17 then some (jU (Zx b jj) (67530)) else none) (by kernel_rfl) (by kernel_rfl) ?_
  simp only[aM,aP,aN,aO];refine zw 15 ?_;simp only[aM,aP,aN,aO]
  repeat (go_big_quiet_step (fail))
  refine YE ?_;refine ae rfl rfl ?_ ?_
  ·intro w1 ak hk;have hC:=rF _ _ _ _ 51 67530 w1 (HC.o.grow ak) (HD.o.grow ak) (by decide);exact zc (Zg hC)
  rintro _ ⟨qxy,qxA,qxu,qxw,qxx,qxz,qxt,qxv,rfl⟩;simp only[Act.put,aC,aB,aA];refine ae rfl rfl ?_ ?_
  ·intro w1 ak hk;have vzY:ExqAt w1 w1.heap.size (.agg (zD qxy qxA qxu qxw qxx qxz qxt qxv)) ((jA b jj).2*Zx b ll) (67581):=hk 174 zk;have hC:=kM _ _ _ _ 67530 67581 w1 (HA.o.grow ak) vzY (by decide);rw[HMs.o] at hC;exact zc (Zg hC)
  rintro _ ⟨qxq,qxs,qxm,qxo,qxp,qxr,qxl,qxn,rfl⟩;simp only[Act.put,aC,aB,aA];refine ae rfl rfl ?_ ?_
  ·intro w1 ak hk;have vzX:ExqAt w1 w1.heap.size (.agg (zD qxq qxs qxm qxo qxp qxr qxl qxn)) (Zx b jj) (135112):=hk 175 zk;have hC:=nW _ _ 135112 50647 w1 vzX (by decide) HFi.o;exact zc (Zg hC)
  rintro _ ⟨Sf,Si,Sb,Sd,Se,Sg,RZ,Sc,rfl⟩;simp only[Act.put,aC,aB,aA];refine zw 1 ?_;simp only[aM,aP,aN,aO]
  repeat (go_big_quiet_step (fail))
  refine YE ?_;refine Zc ?_;intro w8 aJ hF;have kD:ExqAt w8 w8.heap.size (.agg (zD Sf Si Sb Sd Se Sg RZ Sc)) (Zx b jj) 67530:=hF 176;have qZ:=zh (HM.o.grow aJ);have HE:=zh kD;clear hF kD aJ HM HA HC HD HMs HFi wE wD wC wB Nf Ip Nc DU Qc Qb Qa PZ;obtain⟨kU,kW,kQ,kS,kT,kV,kP,kR,o0,o1,o2,o3,oE⟩:=qZ.o.r7.read (i:=jj) j1;have nO:=qZ.o.r7.frozen (jj*4);have nN:=qZ.o.r7.frozen (jj*4+1);have nM:=qZ.o.r7.frozen (jj*4+2)
  have nL:=qZ.o.r7.frozen (jj*4+3);clear oE;go_wp2_with fail;have vw2:Y0 (MoQ w (((((w8).setCell ⟨g7,jj*4,none⟩ (.bool Sf)).setCell ⟨g7,jj*4+1,none⟩ (.slice Si Sb Sd)).setCell ⟨g7,jj*4+2,none⟩ (.bool Se)).setCell ⟨g7,jj*4+3,none⟩ (.slice Sg RZ Sc)) b (zC b (some ⟨bs,os,none⟩) cs Al cl) g7 g8 g9 (uZ b (b.sup.length-1-jj)) (pF b k) (qF b k)):=(qZ.o.put7 (i:=jj) (o:=jj*4) j1 rfl HE.o).weak (fun j q hj h=>by
   unfold uZ at h;unfold eh uZ;by_cases e:j=jj
   ·subst e;rw[if_pos (by omega)] at h;rw[if_pos rfl];exact h
   rw[if_neg e];have h1:=Hjj.o;by_cases e2:j=0∨b.sup.length≤j+1+(b.sup.length-1-jj)
   ·rw[if_pos e2] at h;rw[if_pos (by omega)];exact h
   rw[if_neg e2] at h;cases h) (fun _ _ _ h=>h) (fun _ _ _ h=>h)
  clear qZ HE o0 o1 o2 o3 nO nN nM nL;go_roundw
  case rel=>exact⟨jj,by omega,rfl,vw2⟩
  have:=Hjj.o;simp[intOf];omega
 skip
 have k2:¬(0:Int)<(i:Int)-1:=by omega
 have HR:=zh (HM.o.r7.weak (f':=fun j=>some (Zx b j)) (fun j q hj h=>by
  unfold uZ;rw[if_pos (by omega)];exact h))
 have HBE:=zh HM.o.bel;clear HM;go_wp2_with fail;refine YF (results_tmp rfl _ _ _) (by rfl) ?_;exact⟨HBE.o,_,rfl,HR.o⟩
