/- Lemmas. -/
import Derived.Deep.RegionHeld3
import Derived.Test.YtmmhehgajkaniaaGreatDoorZ6
namespace Go.Proofs.YtmmhehgajkaniaaGreatDoor
set_option maxRecDepth 100000
set_option maxHeartbeats 40000000
open Go.RowKit Go.Shelf
theorem OI (v:Value) (b:BeamT) (w:World) (hv:BeamAt w w.heap.size v b) (hb:BeamOk b):Calls Tryz.prog 108 #[v] w (Dq b w):=by
 obtain⟨As,cs,Al,cl,rfl,hS,hL⟩:=hv;obtain⟨Mf,Yy⟩:=hb.sup1;obtain⟨_,_,e,_,_,u7⟩:=hS.open_;injection e with e1 _ e2;subst e1 e2;obtain⟨bs,os,rfl,gg,By⟩:=u7 0 Mf;have HV:Y0 (BeamAt w w.heap.size (.agg (zC b (some ⟨bs,os,none⟩) cs Al cl)) b):=⟨_,_,Al,cl,rfl,hS,hL⟩;have np:Y0 (∀j,j<b.sup.length→w.cell? ⟨bs,os+j,none⟩=some (.int .i64 (ah b j))):=fun j hj=>by
  have h:=By j hj;unfold ah;rw[yN,yM hj];exact h
 have Hb:=zh hb;have HbT:=zh (lK hb);have HD:=zh (Blk.new w 43 (zC b (some ⟨bs,os,none⟩) cs Al cl));have HB:=zh ((yB _ w).alloc (yA _) (.cells (zC b (some ⟨bs,os,none⟩) cs Al cl) 43));clear hS hL hb u7 By;go_enter Tryz.func108,Tryz.ntmps108;go_wp2_with fail;generalize w.alloc (.cells (zC b (some ⟨bs,os,none⟩) cs Al cl) 43)=W1 at*;obtain⟨y0,y1,y2,y3,y4⟩:=HD.o.c5;go_wp2_with fail;have u0:=YL y0;have u1:=YL y1
 have u2:=YL y2;have u3:=YL y3;have u4:=YL y4;clear y0 y1 y2 y3 y4;refine dO 7 (fun jx=>if jx=1 then some (gE (bu b)) else if jx=3 then some (gB (al b)) else if jx=4 then some (gE (bu (al b))) else if jx=5 then some (gA W1.heap.size) else if jx=6 then some (gA W1.heap.size) else none) [5,6] (by kernel_rfl) (by kernel_rfl) (by kernel_rfl) (nS rfl rfl) ?_;simp only[aM,aP,aN,aO];refine zw 1 ?_;simp only[aM,aP,aN,aO]
 repeat (go_big_quiet_step (fail))
 refine YE ?_;refine ae rfl rfl ?_ ?_
 ·intro w1 ak hk;have hb:=(HB.o).trans (ak.mono (HB.o).size);have hC:=MakesE.g (VO _ b w1 ((HV.o.below hb (yA _)).mono hb.size) Hb.o);exact zc hC
 rintro _ ⟨ET,EV,EO,ER,ES,EU,EN,EP,rfl⟩;simp only[Act.put,aC,aB,aA];refine zw 1 ?_;simp only[aM,aP,aN,aO]
 repeat (go_big_quiet_step (fail))
 refine YE ?_;refine ae rfl rfl ?_ ?_
 ·intro w1 ak hk;have hb:=(HB.o).trans (ak.mono (HB.o).size);have hC:=TurnedPost.g (G3 _ b w1 ((HV.o.below hb (yA _)).mono hb.size) Hb.o);exact zc hC
 rintro _ ⟨tAs,tcs,tAl,tcl,rfl⟩;simp only[Act.put,aC,aB,aA];refine ae rfl rfl ?_ ?_
 ·intro w1 ak hk;have hb:=(HB.o).trans (ak.mono (HB.o).size);have h22:BeamAt w1 w1.heap.size (.agg (zC (al b) tAs tcs tAl tcl)) (al b):=hk 22 (by decide);have hC:=MakesE.g (VO _ (al b) w1 h22 HbT.o);exact zc hC
 rintro _ ⟨RH,RJ,RD,RF,RG,RI,RB,RE,rfl⟩;simp only[Act.put,aC,aB,aA];refine aV rfl rfl (fun w1 ak _=>KB ak.size (by go_simp)) ?_;rintro _ ⟨g5,rfl⟩;simp only[Act.put,aC,aB,aA];refine aV rfl rfl (fun w1 ak _=>KB ak.size (by go_simp)) ?_;rintro _ ⟨g6,rfl⟩;simp only[Act.put,aC,aB,aA];refine Zc ?_;intro w8 aJ hF hA;have Mu:ExactAt w8 (.agg (zD ET EV EO ER ES EU EN EP)) (bu b):=hF 20;have h23:ExactAt w8 (.agg (zD RH RJ RD RF RG RI RB RE)) (bu (al b)):=hF 23
 have h5:BX W1.heap.size (.pointer (some ⟨g5,0,none⟩)) w8:=hF 5;have h6:BX W1.heap.size (.pointer (some ⟨g6,0,none⟩)) w8:=hF 6;have Oq:g6≠g5:=fun e=>(hA 5 (by simp) g5 rfl).2 6 (by simp) (by decide) (by rw[e];rfl);have HFx:=zh Mu;have HFy:=zh h23;have D8:=HD.o.below aJ HD.o.lt;have B8:=HB.o.trans (aJ.mono HB.o.size);have b5:=h5;have b6:=h6;obtain⟨_,e5,-,b5⟩:=b5;obtain⟨_,e6,-,b6⟩:=b6;injection e5 with e5
 injection e5 with e5;injection e5 with e5 _ _;injection e6 with e6;injection e6 with e6;injection e6 with e6 _ _;subst e5 e6;have c50:=b5.cell 0;have f50:=b5.frozen 0;have c51:=b5.cell 1;have f51:=b5.frozen 1;have c52:=b5.cell 2;have f52:=b5.frozen 2;have c53:=b5.cell 3;have f53:=b5.frozen 3;have c60:=b6.cell 0;have Z3:=b6.frozen 0;have c61:=b6.cell 1;have Z2:=b6.frozen 1;have c62:=b6.cell 2;have f62:=b6.frozen 2
 have c63:=b6.cell 3;have f63:=b6.frozen 3;simp only[aG,aH,aD] at c50 c51 c52 c53 c60 c61 c62 c63;have H5:=zh h5;have H6:=zh h6;have H56:=zh Oq;have bj:=zh D8;have ep:=zh B8;have PE:=zh HD.o.lt;have vv5:¬(g6=g5):=Oq;clear hF hA u0 u1 u2 u3 u4 Mu h23 h5 h6 Oq aJ D8 B8 b5 b6 HD HB;by_cases hm:b.sup.length=1
 ·have hd:((b.sup.length:Int)==1)=true:=beq_iff_eq.2 (by omega);have HT:Y0 (bN b=(iy (bu b-bu (al b)).num==0)):=by unfold Y0 bN;rw[if_pos hm,Np]
  have HL:Y0 (jw b=[bu b]):=by unfold Y0 jw;rw[hm];rfl
  clear hm;go_wp2_with fail;have hM:=MomSt.start bj.o ep.o PE.o H5.o H6.o H56.o HFx.o HFy.o;generalize ((((((((w8.setCell ⟨g5,0,none⟩ (.bool ET)).setCell ⟨g5,1,none⟩ (.slice EV EO ER)).setCell ⟨g5,2,none⟩ (.bool ES)).setCell ⟨g5,3,none⟩ (.slice EU EN EP)).setCell ⟨g6,0,none⟩ (.bool RH)).setCell ⟨g6,1,none⟩ (.slice RJ RD RF)).setCell ⟨g6,2,none⟩ (.bool RG)).setCell ⟨g6,3,none⟩ (.slice RI RB RE))=W9 at*
  obtain⟨mK,mM,mC,mI,mJ,mL,mB,mH,hB,hE⟩:=hM.fst;obtain⟨y0,y1,y2,y3⟩:=hB.c4;have u0:=YL y0;have u1:=YL y1;have u2:=YL y2;have u3:=YL y3;clear y0 y1 y2 y3;obtain⟨Qj,Ql,Pr,Qh,Qi,Qk,Pq,Qg,sd,zO⟩:=hM.lst;obtain⟨xy0,xy1,xy2,xy3⟩:=sd.c4;have xu0:=YL xy0;have xu1:=YL xy1;have xu2:=YL xy2;have xu3:=YL xy3;clear xy0 xy1 xy2 xy3;have nG:=zh hM.bel;have HE:=zh hE;have iq:=zh zO;clear hM hE zO hB sd c50 c51 c52 c53 c60 c61 c62 c63 f50 f51 f52 f53 Z3 Z2 f62 f63 H5 H6 HFx HFy bj ep
  refine af 9 (fun jx=>if jx=1 then some (gX (bu b)) else if jx=4 then some (gE (bu b-bu (al b))) else if jx=6 then some (gV (.int .i64 (iy (bu b-bu (al b)).num))) else none) (by kernel_rfl) (by kernel_rfl) ?_;simp only[aM,aP,aN,aO];refine zw 1 ?_;simp only[aM,aP,aN,aO]
  repeat (go_big_quiet_step (fail))
  refine YE ?_;refine aV rfl rfl (fun w1 ak _=>qjr (HE.o.grow ak) (by go_simp)) ?_;rintro _ ⟨g27,rfl⟩;simp only[Act.put,aC,aB,aA];refine zw 2 ?_;simp only[aM,aP,aN,aO]
  repeat (go_big_quiet_step (fail))
  refine YE ?_;refine ae rfl rfl ?_ ?_
  ·intro w1 ak hk;have hb:=(nG.o).trans (ak.mono (nG.o).size);have hC:=MakesE.g (je _ _ _ _ 247 247 w1 (HE.o.grow ak) (iq.o.grow ak) (dC Hb.o) (dC HbT.o) (by decide));exact zc hC
  rintro _ ⟨qqT,qqU,qqR,qqS,vqC,vqD,vqA,vqB,rfl⟩;simp only[Act.put,aC,aB,aA];refine PU (v:=.agg #[.bool qqT,.slice qqU qqR qqS]) rfl rfl (fun w1=>by kernel_rfl) ?_;simp only[Act.put,aC,aB,aA];refine ae rfl rfl ?_ ?_
  ·intro w1 ak hk;have hb:=(nG.o).trans (ak.mono (nG.o).size);have h30:ExactAt w1 (.agg (zD qqT qqU qqR qqS vqC vqD vqA vqB)) (bu b-bu (al b)):=hk 31 (by decide) 30 (by decide);obtain⟨_,_,_,_,_,_,_,_,e30,vzP,-⟩:=h30.form;have hC:=qj2 e30 vzP;exact zc hC
  rintro _ rfl;simp only[Act.put,aC,aB,aA];refine zw 2 ?_;simp only[aM,aP,aN,aO]
  repeat (go_big_quiet_step (fail))
  refine YE ?_;refine Zc ?_;intro w8 aJ hF;have h27:ExsAt w8 (.slice (some ⟨g27,0,none⟩) 1 1) [bu b]:=hF 27;have Pm:=zh (nG.o.trans (aJ.mono nG.o.size));have H27:=zh h27;clear hF h27 aJ u0 u1 u2 u3 xu0 xu1 xu2 xu3 HE iq nG;go_wp2_with fail;refine YF (results_tmp2 rfl _ _ _) (by rfl) ?_;exact⟨Pm.o,_,by rw[HT.o];rfl,by rw[HL.o];exact H27.o⟩
 have hd:((b.sup.length:Int)==1)=false:=zb (by omega);have HT:Y0 (bN b=true):=by unfold Y0 bN;rw[if_neg hm]
 have vzu:2≤b.sup.length:=by omega
 obtain⟨iE,Kn,qI,qH,tz⟩:=info_parts qG;have aZ:iE.bytes*b.sup.length≤281474976710656:=by rw[tz];omega
 clear hm;have hM:=MomSt.start bj.o ep.o PE.o H5.o H6.o H56.o HFx.o HFy.o;have HM:=zh hM;clear hM;go_wp2_with (at_make;refine wpList_make_full _ rfl _ _ 105 rfl _ 154 iE (.agg (zD false none 0 0 false none 0 0)) 4 Tryz.underlying105 Kn qI qH .i64 .i64 _ _ b.sup.length rfl rfl rfl rfl aZ (by unfold maxLen;omega) (Nat.le_refl _) ?_;intro X4 xM pA);have nt:=zh (ExRow.made xM);have KY:Y0 (MomSt w X4 b (zC b (some ⟨bs,os,none⟩) cs Al cl) g5 g6):=HM.o.grow ((yB _ _).grown pA (yA _) (fun k hk=>by cases hk))
 have xS:Y0 (g5<w8.heap.size∧g6<w8.heap.size∧w.heap.size<w8.heap.size):=by
  obtain⟨_,e5,_,b5⟩:=H5.o;obtain⟨_,e6,_,b6⟩:=H6.o;injection e5 with e5;injection e5 with e5;injection e5 with e5 _ _;injection e6 with e6;injection e6 with e6;injection e6 with e6 _ _;subst e5 e6;exact⟨b5.lt,b6.lt,bj.o.lt⟩
 have vxg:(((((((((w8.setCell ⟨g5,0,none⟩ (.bool ET)).setCell ⟨g5,1,none⟩ (.slice EV EO ER)).setCell ⟨g5,2,none⟩ (.bool ES)).setCell ⟨g5,3,none⟩ (.slice EU EN EP)).setCell ⟨g6,0,none⟩ (.bool RH)).setCell ⟨g6,1,none⟩ (.slice RJ RD RF)).setCell ⟨g6,2,none⟩ (.bool RG)).setCell ⟨g6,3,none⟩ (.slice RI RB RE))).heap.size=w8.heap.size:=by simp[World.setCell]
 rw[vxg] at nt;obtain⟨go,vq8⟩:=zo (w8.heap.size);rw[vq8] at nt xS;simp only[vq8];have PL:Y0 (g5<go):=xS.o.1;have HG2:Y0 (g6<go):=xS.o.2.1;have HG3:Y0 (w.heap.size<go):=xS.o.2.2;clear vq8 vxg xM pA aZ Kn qI qH tz xS HM H5 H6 HFx HFy bj ep c50 c51 c52 c53 c60 c61 c62 c63 f50 f51 f52 f53 Z3 Z2 f62 f63;obtain⟨mK,mM,mC,mI,mJ,mL,mB,mH,hB,hE⟩:=KY.o.fst;obtain⟨Qj,Ql,Pr,Qh,Qi,Qk,Pq,Qg,sd,zO⟩:=KY.o.lst;have p0:=hB.cell 0
 have p1:=hB.cell 1;have p2:=hB.cell 2;have p3:=hB.cell 3;have x0:=sd.cell 0;have x1:=sd.cell 1;have x2:=sd.cell 2;have x3:=sd.cell 3;obtain⟨_,_,_,_,_,_,_,_,o0,o1,o2,o3,-⟩:=nt.o.read (i:=0) (by omega);obtain⟨_,_,_,_,_,_,_,_,l0,l1,l2,l3,-⟩:=nt.o.read (i:=b.sup.length-1) (by omega);simp only[aG,aH,aD,Nat.zero_mul,Nat.zero_add] at p0 p1 p2 p3 x0 x1 x2 x3 o0 o1 o2 o3;have fz:=nt.o.frozen;have nO:=fz 0
 have nN:=fz 1;have nM:=fz 2;have nL:=fz 3;have fl0:=fz ((b.sup.length-1)*4);have fl1:=fz ((b.sup.length-1)*4+1);have fl2:=fz ((b.sup.length-1)*4+2);have fl3:=fz ((b.sup.length-1)*4+3);have HE:=zh hE;have iq:=zh zO;have j0:(0:Int)≤(b.sup.length:Int)-1:=by omega
 have j1:(b.sup.length:Int)-1<(b.sup.length:Int):=by omega
 have j2:((b.sup.length:Int)-1).toNat=b.sup.length-1:=by omega
 have j3:(0:Int)<(b.sup.length:Int):=by omega
 have j4:0<b.sup.length:=by omega
 have j5:IntKind.i64.wrap ((b.sup.length:Int)-1)=(b.sup.length:Int)-1:=yF _ (by omega);have j6:(1:Int)≤(b.sup.length:Int):=by omega
 have n5:g5≠go:=Nat.ne_of_lt PL.o;have n6:g6≠go:=Nat.ne_of_lt HG2.o;have n5':go≠g5:=Ne.symm n5;have n6':go≠g6:=Ne.symm n6;clear hB sd hE zO fz;go_region_held3 (fun w'=>w'.cell? ⟨g5,0,none⟩=some (.bool mK)∧w'.cell? ⟨g5,1,none⟩=some (.slice mM mC mI)∧w'.cell? ⟨g5,2,none⟩=some (.bool mJ)∧w'.cell? ⟨g5,3,none⟩=some (.slice mL mB mH)∧w'.cell? ⟨g6,0,none⟩=some (.bool Qj)∧w'.cell? ⟨g6,1,none⟩=some (.slice Ql Pr Qh)∧w'.cell? ⟨g6,2,none⟩=some (.bool Qi)∧w'.cell? ⟨g6,3,none⟩=some (.slice Qk Pq Qg)) (go_keep) (fail)
 have R1:=nt.o.write (i:=0) (by omega) HE.o;obtain⟨cs6,hk6⟩:=nt.o.blk;have E26:=iq.o.set4 hk6 (0*4) (.bool mK) (.slice mM mC mI) (.bool mJ) (.slice mL mB mH);have R2:=R1.write (i:=b.sup.length-1) (by omega) E26;have M1:=KY.o.set4 hk6 HG3.o n5' n6' (0*4) (.bool mK) (.slice mM mC mI) (.bool mJ) (.slice mL mB mH);obtain⟨cs7,hk7⟩:=R1.blk;have M2:=M1.set4 hk7 HG3.o n5' n6' ((b.sup.length-1)*4) (.bool Qj) (.slice Ql Pr Qh) (.bool Qi) (.slice Qk Pq Qg)
 simp only[Nat.zero_mul,Nat.zero_add] at R2 M2;have MM:=zh (R2.grow (yB _ _).drew);have DK:=zh (M2.grow (yB _ _).drew);generalize ((((((((X4.setCell ⟨go,0,none⟩ (.bool mK)).setCell ⟨go,1,none⟩ (.slice mM mC mI)).setCell ⟨go,2,none⟩ (.bool mJ)).setCell ⟨go,3,none⟩ (.slice mL mB mH)).setCell ⟨go,(b.sup.length-1)*4,none⟩ (.bool Qj)).setCell ⟨go,(b.sup.length-1)*4+1,none⟩ (.slice Ql Pr Qh)).setCell ⟨go,(b.sup.length-1)*4+2,none⟩ (.bool Qi)).setCell ⟨go,(b.sup.length-1)*4+3,none⟩ (.slice Qk Pq Qg)).drew=W11 at*
 have HN:Y0 (go≠g5∧go≠g6):=⟨n5',n6'⟩;clear R1 R2 M1 M2 E26 hk6 hk7 nt KY HE iq p0 p1 p2 p3 x0 x1 x2 x3 o0 o1 o2 o3 l0 l1 l2 l3 nO nN nM nL fl0 fl1 fl2 fl3 j0 j1 j2 j3 j4 j5 j6 n5 n6 n5' n6' PL HG2;go_wp2_with fail;refine dO 5 (fun i=>if i=1 then some (gR W11.heap.size b.sup.length) else if i=3 then some (gR W11.heap.size b.sup.length) else none) [45,47] (by kernel_rfl) (by kernel_rfl) (by kernel_rfl) (nS rfl rfl) ?_
 simp only[aM,aP,aN,aO];refine zw 1 ?_;simp only[aM,aP,aN,aO]
 repeat (go_big_quiet_step (fail))
 refine YE ?_;refine aV rfl rfl (fun w1 ak _=>Vi rfl rfl rfl (by omega) ak.size) ?_;rintro _ ⟨gd,rfl⟩;simp only[Act.put,aC,aB,aA];refine zw 1 ?_;simp only[aM,aP,aN,aO]
 repeat (go_big_quiet_step (fail))
 refine YE ?_;refine aV rfl rfl (fun w1 ak _=>Vi rfl rfl rfl (by omega) ak.size) ?_;rintro _ ⟨gr,rfl⟩;simp only[Act.put,aC,aB,aA];refine zw 1 ?_;simp only[aM,aP,aN,aO]
 repeat (go_big_quiet_step (fail))
 refine YE ?_;refine Zc ?_;intro X3 pT hF hA;have h45:WU W11.heap.size b.sup.length (.slice (some ⟨gd,0,none⟩) b.sup.length b.sup.length) X3:=hF 45;have h47:WU W11.heap.size b.sup.length (.slice (some ⟨gr,0,none⟩) b.sup.length b.sup.length) X3:=hF 47;have hdr:gr≠gd:=fun e=>(hA 45 (by simp) gd rfl).2 47 (by simp) (by decide) (by rw[e];rfl);have HMR:Y0 (MomRows w X3 b (zC b (some ⟨bs,os,none⟩) cs Al cl) g5 g6 go gd gr (eh (eh (fun _=>none) 0 (bu b)) (b.sup.length-1) (bu (al b))) (fun _=>none) (fun _=>none)):=by
  obtain⟨_,e5,b45,r45⟩:=h45;obtain⟨_,e6,b47,r47⟩:=h47;injection e5 with e5 _ _;injection e5 with e5;injection e5 with e5 _ _;injection e6 with e6 _ _;injection e6 with e6;injection e6 with e6 _ _;subst e5 e6;have k1:=MM.o.lt;obtain⟨_,_,_,_,_,_,_,_,k2,-⟩:=DK.o.fst;obtain⟨_,_,_,_,_,_,_,_,k3,-⟩:=DK.o.lst;have k2:=k2.lt;have k3:=k3.lt;have k4:=DK.o.bm.lt;exact⟨DK.o.grow pT,MM.o.grow pT,r45,r47,⟨HG3.o,by omega,by omega⟩,HN.o,⟨by omega,by omega⟩,⟨by omega,by omega⟩,⟨by omega,by omega,Ne.symm hdr⟩⟩
 clear hF hA h45 h47 hdr pT DK MM HN HG3;go_wp2_with fail;have vxQ:Y0 (MomRows w X3 b (zC b (some ⟨bs,os,none⟩) cs Al cl) g5 g6 go gd gr (eh (eh (fun _=>none) 0 (bu b)) (b.sup.length-1) (bu (al b))) (gq (bK b) 1) (gq (gK b) 1)):=by rw[AG,AG];exact HMR.o
 clear HMR;go_loopw [10] (fun ix wr=>∃i:Nat,1≤i∧i+1≤b.sup.length∧ix=.int .i64 i∧Y0 (MomRows w wr b (zC b (some ⟨bs,os,none⟩) cs Al cl) g5 g6 go gd gr (eh (eh (fun _=>none) 0 (bu b)) (b.sup.length-1) (bu (al b))) (gq (bK b) i) (gq (gK b) i))) (fun ix _=>b.sup.length-(intOf ix).toNat)
 case atStart=>exact⟨1,yA _,vzu,rfl,vxQ⟩
 clear vxQ;obtain⟨i,Py,him,rfl,HR⟩:=hrel;have k0:(1:Int)≤(i:Int):=by omega
 have k01:(i:Int)≤10:=by omega
 by_cases ff:i+1<b.sup.length
 ·have k1:(i:Int)<(b.sup.length:Int)-1:=by omega
  obtain⟨y0,y1,y2,y3,y4⟩:=HR.o.st.bm.c5;have hH:=zh (np.o (i-1) (by omega));have jb:=zh (np.o i (by omega));have km:=zh (np.o (i+1) (by omega));have z0:=(HR.o.st.bel.cell (p:=⟨bs,os+(i-1),none⟩) gg).trans (np.o (i-1) (by omega));have z1:=(HR.o.st.bel.cell (p:=⟨bs,os+i,none⟩) gg).trans (np.o i (by omega));have z2:=(HR.o.st.bel.cell (p:=⟨bs,os+(i+1),none⟩) gg).trans (np.o (i+1) (by omega));have t0:=Hb.o.sup (i-1) (by omega)
  have t1:=Hb.o.inc (i-1) (by omega);have t2:=Hb.o.inc i ff;have t3:=Hb.o.sup (i+1) ff;have t4:=Hb.o.len;rw[show i-1+1=i by omega] at t1;have HK:Y0 (aX b i=ah b i-ah b (i-1)):=rfl;have HN:Y0 (aX b (i+1)=ah b (i+1)-ah b i):=rfl;have HRH:Y0 (ki b i=((0:Int):Rat)-cH b (ah b (i-1)) (ah b i) true-cH b (ah b i) (ah b (i+1)) false):=rfl;have HSF:=mD Hb.o (i:=i-1) (by omega) true;rw[show i-1+1=i by omega] at HSF
  have HSF:=zh HSF;have vvz:=zh (mD Hb.o (i:=i) ff false);generalize ah b (i-1)=sp at*;generalize ah b i=sq at*;generalize ah b (i+1)=sr at*;obtain⟨t01,t02⟩:=t0;obtain⟨t31,t32⟩:=t3;obtain⟨t41,t42⟩:=t4;have i2:((i:Int)-1).toNat=i-1:=by omega
  have i3:((i:Int)+1).toNat=i+1:=by omega
  have i4:(0:Int)≤(i:Int)-1:=by omega
  have i5:(i:Int)-1<(b.sup.length:Int):=by omega
  have i6:(i:Int)+1<(b.sup.length:Int):=by omega
  have i7:(i:Int)<(b.sup.length:Int):=by omega
  have i8:(0:Int)≤(i:Int):=by omega
  have i9:(0:Int)≤(i:Int)+1:=by omega
  have v1:IntKind.i64.wrap ((i:Int)-1)=(i:Int)-1:=yF _ (by omega);have v2:IntKind.i64.wrap ((i:Int)+1)=(i:Int)+1:=yF _ (by omega);have v3:IntKind.i64.wrap (sq-sp)=sq-sp:=yF _ (by omega);have v4:IntKind.i64.wrap (sr-sq)=sr-sq:=yF _ (by omega);go_wp2_with fail;go_quiet (fail);go_wp2_with fail;refine (fP _ _ (by omega) (by omega)).mono ?_;rintro e w5 ⟨aR,v5,rfl,K5⟩;obtain⟨vwH,vwJ,vwD,vwF,vwG,vwI,vwC,vwE,rfl,-,-⟩:=K5.form
  have Ax:=zh K5;have pb:=zh ((HR.o.drew nq).grow aR);obtain⟨_,_,_,_,_,_,_,_,o0,o1,o2,o3,-⟩:=pb.o.dia.read (i:=i) (by omega);have nO:=pb.o.dia.frozen (i*4);have nN:=pb.o.dia.frozen (i*4+1);have nM:=pb.o.dia.frozen (i*4+2);have nL:=pb.o.dia.frozen (i*4+3);clear K5 aR HR;go_wp2_with fail;have vp:=zh (pb.o.putD (i:=i) (by omega) Ax.o);generalize ((((w5.setCell ⟨gd,i*4,none⟩ (.bool vwH)).setCell ⟨gd,i*4+1,none⟩ (.slice vwJ vwD vwF)).setCell ⟨gd,i*4+2,none⟩ (.bool vwG)).setCell ⟨gd,i*4+3,none⟩ (.slice vwI vwC vwE))=W6 at*
  clear pb Ax o0 o1 o2 o3 nO nN nM nL;obtain⟨y0,y1,y2,y3,y4⟩:=vp.o.st.bm.c5;have XA:=YL y0;have X9:=YL y1;have X8:=YL y2;have X7:=YL y3;have X6:=YL y4;have z0:=(vp.o.st.bel.cell (p:=⟨bs,os+(i-1),none⟩) gg).trans hH.o;have z1:=(vp.o.st.bel.cell (p:=⟨bs,os+i,none⟩) gg).trans jb.o;have z2:=(vp.o.st.bel.cell (p:=⟨bs,os+(i+1),none⟩) gg).trans km.o;have us0:=YL z0;have us1:=YL z1;have us2:=YL z2;clear y0 y1 y2 y3 y4 z0 z1 z2
  have bf:=zh vp.o.st.bel;refine af 32 (fun jx=>if jx=2 then some (gE (((0:Int):Rat))) else if jx=15 then some (gE (cH b sp sq true)) else if jx=16 then some (gE (((0:Int):Rat)-cH b sp sq true)) else if jx=29 then some (gE (cH b sq sr false)) else if jx=30 then some (gE (((0:Int):Rat)-cH b sp sq true-cH b sq sr false)) else none) (by kernel_rfl) (by kernel_rfl) ?_;simp only[aM,aP,aN,aO];refine zw 2 ?_
  simp only[aM,aP,aN,aO]
  repeat (go_big_quiet_step (fail))
  refine YE ?_;refine ae rfl rfl ?_ ?_
  ·intro w1 ak hk;have hb:=(bf.o).trans (ak.mono (bf.o).size);have hC:=MakesE.g (fP 0 w1 (by decide) (by decide));exact zc hC
  rintro _ ⟨qkD,qkF,qkz,qkB,qkC,qkE,qky,qkA,rfl⟩;simp only[Act.put,aC,aB,aA];refine zw 12 ?_;simp only[aM,aP,aN,aO]
  repeat (go_big_quiet_step (fail))
  refine YE ?_;refine ae rfl rfl ?_ ?_
  ·intro w1 ak hk;have hb:=(bf.o).trans (ak.mono (bf.o).size);have hC:=MakesE.g (VL _ b sp sq true w1 ((HV.o.below hb (yA _)).mono hb.size) Hb.o (by omega) (by omega) (by omega));exact zc hC
  rintro _ ⟨qvS,qvU,qvO,qvQ,qvR,qvT,qvN,qvP,rfl⟩;simp only[Act.put,aC,aB,aA];refine ae rfl rfl ?_ ?_
  ·intro w1 ak hk;have hb:=(bf.o).trans (ak.mono (bf.o).size);have h88:ExactAt w1 (.agg (zD qkD qkF qkz qkB qkC qkE qky qkA)) (((0:Int):Rat)):=hk 88 zk;have vvh:ExactAt w1 (.agg (zD qvS qvU qvO qvQ qvR qvT qvN qvP)) (cH b sp sq true):=hk 101 zk;have hC:=MakesE.g (je _ _ _ _ 1 245 w1 h88 vvh (bI (by decide) (yA _)) HSF.o (by decide));exact zc hC
  rintro _ ⟨qvK,qvM,qvG,qvI,qvJ,qvL,qvF,qvH,rfl⟩;simp only[Act.put,aC,aB,aA];refine zw 12 ?_;simp only[aM,aP,aN,aO]
  repeat (go_big_quiet_step (fail))
  refine YE ?_;refine ae rfl rfl ?_ ?_
  ·intro w1 ak hk;have hb:=(bf.o).trans (ak.mono (bf.o).size);have hC:=MakesE.g (VL _ b sq sr false w1 ((HV.o.below hb (yA _)).mono hb.size) Hb.o (by omega) (by omega) (by omega));exact zc hC
  rintro _ ⟨qvu,qvw,qvq,qvs,qvt,qvv,qvp,qvr,rfl⟩;simp only[Act.put,aC,aB,aA];refine ae rfl rfl ?_ ?_
  ·intro w1 ak hk;have hb:=(bf.o).trans (ak.mono (bf.o).size);have vvg:ExactAt w1 (.agg (zD qvK qvM qvG qvI qvJ qvL qvF qvH)) (((0:Int):Rat)-cH b sp sq true):=hk 102 zk;have vvd:ExactAt w1 (.agg (zD qvu qvw qvq qvs qvt qvv qvp qvr)) (cH b sq sr false):=hk 115 zk;have hC:=MakesE.g (je _ _ _ _ 247 245 w1 vvg vvd (dT (K:=1) (M:=245) (bI (by decide) (yA _)) HSF.o) vvz.o (by decide));exact zc hC
  rintro _ ⟨Jv,Jy,Jr,Jt,Ju,Jw,Jq,Js,rfl⟩;simp only[Act.put,aC,aB,aA];refine zw 1 ?_;simp only[aM,aP,aN,aO]
  repeat (go_big_quiet_step (fail))
  refine YE ?_;refine Zc ?_;intro w8 aJ hF;have vwu:ExactAt w8 (.agg (zD Jv Jy Jr Jt Ju Jw Jq Js)) (((0:Int):Rat)-cH b sp sq true-cH b sq sr false):=hF 116;rw[←HRH.o] at vwu;have MR:=zh vwu;have qf:=zh (vp.o.grow aJ);obtain⟨_,_,_,_,_,_,_,_,o0,o1,o2,o3,-⟩:=qf.o.rgt.read (i:=i) (by omega);have nO:=qf.o.rgt.frozen (i*4);have nN:=qf.o.rgt.frozen (i*4+1);have nM:=qf.o.rgt.frozen (i*4+2);have nL:=qf.o.rgt.frozen (i*4+3)
  clear hF vwu aJ vp bf XA X9 X8 X7 X6 us0 us1 us2;by_cases h1:i=1
  ·have hd:((i:Int)==1)=true:=beq_iff_eq.2 (by omega);have hFR:=po Hb.o Py ff;have HFR:=zh hFR;have tR:Y0 (bK b i=((2*(sq-sp+(sr-sq)):Int):Rat)):=by unfold Y0;rw[←HK.o,←HN.o,h1];rfl
   have iq:Y0 (gK b i=ki b i-bu b*((sq-sp:Int):Rat)):=by unfold Y0;rw[←HK.o,h1];rfl
   clear h1 hFR;go_wp2_with fail;have Hy:=zh (qf.o.putR (i:=i) (by omega) MR.o);generalize ((((w8.setCell ⟨gr,i*4,none⟩ (.bool Jv)).setCell ⟨gr,i*4+1,none⟩ (.slice Jy Jr Jt)).setCell ⟨gr,i*4+2,none⟩ (.bool Ju)).setCell ⟨gr,i*4+3,none⟩ (.slice Jw Jq Js))=W9 at*;clear qf MR o0 o1 o2 o3 nO nN nM nL;obtain⟨kU,kW,kQ,kS,kT,kV,kP,kR,a0,a1,a2,a3,rZ⟩:=Hy.o.rgt.read (i:=i) (by omega);have sK:=zh (rZ _ (gx _ _ _))
   have wE:=YL a0;have wD:=YL a1;have wC:=YL a2;have wB:=YL a3;clear a0 a1 a2 a3 rZ;obtain⟨qv,qw,qt,qu,pN,pO,pL,pM,hBc,FP⟩:=Hy.o.st.fst;obtain⟨c0,c1,c2,c3⟩:=hBc.c4;have GI:=zh FP;have Nf:=YL c0;have Ip:=YL c1;have Nc:=YL c2;have DU:=YL c3;clear c0 c1 c2 c3 FP hBc;have bf:=zh Hy.o.st.bel;refine af 12 (fun jx=>if jx=8 then some (gE (((sq-sp:Int):Rat))) else if jx=9 then some (gE (bu b*((sq-sp:Int):Rat))) else if jx=10 then some (gE (ki b i-bu b*((sq-sp:Int):Rat))) else none) (by kernel_rfl) (by kernel_rfl) ?_
   simp only[aM,aP,aN,aO];refine zw 8 ?_;simp only[aM,aP,aN,aO]
   repeat (go_big_quiet_step (fail))
   refine YE ?_;refine ae rfl rfl ?_ ?_
   ·intro w1 ak hk;have hb:=(bf.o).trans (ak.mono (bf.o).size);have hC:=MakesE.g (fP (sq-sp) w1 (by omega) (by omega));exact zc hC
   rintro _ ⟨qzI,qzK,qzE,qzG,qzH,qzJ,qzD,qzF,rfl⟩;simp only[Act.put,aC,aB,aA];refine ae rfl rfl ?_ ?_
   ·intro w1 ak hk;have hb:=(bf.o).trans (ak.mono (bf.o).size);have vwt:ExactAt w1 (.agg (zD qzI qzK qzE qzG qzH qzJ qzD qzF)) (((sq-sp:Int):Rat)):=hk 128 zk;have hC:=MakesE.g (sF _ _ _ _ 247 1 w1 (GI.o.grow ak) vwt (dC Hb.o) (bI (by rw[Nat.pow_one];omega) (yA _)) (by decide));exact zc hC
   rintro _ ⟨Jf,Jh,Jb,Jd,Je,Jg,Ja,Jc,rfl⟩;simp only[Act.put,aC,aB,aA];refine ae rfl rfl ?_ ?_
   ·intro w1 ak hk;have hb:=(bf.o).trans (ak.mono (bf.o).size);have vws:ExactAt w1 (.agg (zD Jf Jh Jb Jd Je Jg Ja Jc)) (bu b*((sq-sp:Int):Rat)):=hk 129 zk;have hC:=MakesE.g (je _ _ _ _ 493 248 w1 (sK.o.grow ak) vws HFR.o (ig (K:=247) (M:=1) (dC Hb.o) (bI (by rw[Nat.pow_one];omega) (yA _))) (by decide));exact zc hC
   rintro _ ⟨Tg,Tj,Tc,Te,Tf,Ti,Tb,Td,rfl⟩;simp only[Act.put,aC,aB,aA];refine zw 1 ?_;simp only[aM,aP,aN,aO]
   repeat (go_big_quiet_step (fail))
   refine YE ?_;refine Zc ?_;intro w8 aJ hF;have vxH:ExactAt w8 (.agg (zD Tg Tj Tc Te Tf Ti Tb Td)) (ki b i-bu b*((sq-sp:Int):Rat)):=hF 130;have qjN:=zh vxH;have Av:=zh (Hy.o.grow aJ);obtain⟨_,_,_,_,_,_,_,_,o0,o1,o2,o3,-⟩:=Av.o.rgt.read (i:=i) (by omega);have nO:=Av.o.rgt.frozen (i*4);have nN:=Av.o.rgt.frozen (i*4+1);have nM:=Av.o.rgt.frozen (i*4+2);have nL:=Av.o.rgt.frozen (i*4+3);clear hF vxH aJ Hy bf wE wD wC wB sK Nf Ip Nc DU GI
   go_wp2_with fail;have Xp:=zh (Av.o.putR (i:=i) (by omega) qjN.o);generalize ((((w8.setCell ⟨gr,i*4,none⟩ (.bool Tg)).setCell ⟨gr,i*4+1,none⟩ (.slice Tj Tc Te)).setCell ⟨gr,i*4+2,none⟩ (.bool Tf)).setCell ⟨gr,i*4+3,none⟩ (.slice Ti Tb Td))=OV at*;have HRn:Y0 (MomRows w OV b (zC b (some ⟨bs,os,none⟩) cs Al cl) g5 g6 go gd gr (eh (eh (fun _=>none) 0 (bu b)) (b.sup.length-1) (bu (al b))) (gq (bK b) (i+1)) (gq (gK b) (i+1))):=by
    unfold Y0;rw[m8 _ Py,m8 _ Py,tR.o,iq.o,←gy (gq (gK b) i) i (ki b i)];exact Xp.o
   clear Av Xp qjN o0 o1 o2 o3 nO nN nM nL;go_roundw
   case rel=>exact⟨i+1,by omega,by omega,by go_num,HRn⟩
   simp[intOf];omega
  have hd:((i:Int)==1)=false:=zb (by omega);have HFR:=zh (po Hb.o Py ff);have tR:Y0 (bK b i=((2*(sq-sp+(sr-sq)):Int):Rat)-((sq-sp:Int):Rat)/bK b (i-1)*((sq-sp:Int):Rat)):=by unfold Y0;rw[←HK.o,←HN.o];exact VC b (by omega)
  have iq:Y0 (gK b i=ki b i-((sq-sp:Int):Rat)/bK b (i-1)*gK b (i-1)):=by unfold Y0;rw[←HK.o];exact XI b (by omega)
  have HDz:=zh (mZ Hb.o (i:=i-1) (by omega) (by omega));have Pj:=zh (aI (M:=41) (iR Hb.o (i-1) (by omega) (by omega)) (by omega));have HRf:=zh (aI (M:=6200) (nU Hb.o (i-1) (by omega) (by omega)) (by omega));have HDd:=zh (wF Hb.o (i:=i) Py ff);rw[HK.o,HN.o] at HDd;go_wp2_with fail;have Hy:=zh (qf.o.putR (i:=i) (by omega) MR.o);generalize ((((w8.setCell ⟨gr,i*4,none⟩ (.bool Jv)).setCell ⟨gr,i*4+1,none⟩ (.slice Jy Jr Jt)).setCell ⟨gr,i*4+2,none⟩ (.bool Ju)).setCell ⟨gr,i*4+3,none⟩ (.slice Jw Jq Js))=W9 at*
  clear qf MR o0 o1 o2 o3 nO nN nM nL;obtain⟨kU,kW,kQ,kS,kT,kV,kP,kR,a0,a1,a2,a3,rZ⟩:=Hy.o.dia.read (i:=(i-1)) (by omega);have sK:=zh (rZ _ ((xk _ _ (by omega)).trans (rr _ (by omega) (by omega))));have wE:=YL a0;have wD:=YL a1;have wC:=YL a2;have wB:=YL a3;clear a0 a1 a2 a3 rZ;have bf:=zh Hy.o.st.bel;refine af 9 (fun jx=>if jx=1 then some (gE (((sq-sp:Int):Rat))) else if jx=7 then some (gE (((sq-sp:Int):Rat)/bK b (i-1))) else if jx=8 then some (gA W9.heap.size) else none) (by kernel_rfl) (by kernel_rfl) ?_
  simp only[aM,aP,aN,aO];refine zw 1 ?_;simp only[aM,aP,aN,aO]
  repeat (go_big_quiet_step (fail))
  refine YE ?_;refine ae rfl rfl ?_ ?_
  ·intro w1 ak hk;have hb:=(bf.o).trans (ak.mono (bf.o).size);have hC:=MakesE.g (fP (sq-sp) w1 (by omega) (by omega));exact zc hC
  rintro _ ⟨qzA,qzC,qzw,qzy,qzz,qzB,qzv,qzx,rfl⟩;simp only[Act.put,aC,aB,aA];refine zw 5 ?_;simp only[aM,aP,aN,aO]
  repeat (go_big_quiet_step (fail))
  refine YE ?_;refine ae rfl rfl ?_ ?_
  ·intro w1 ak hk;have hb:=(bf.o).trans (ak.mono (bf.o).size);have vz7:ExactAt w1 (.agg (zD qzA qzC qzw qzy qzz qzB qzv qzx)) (((sq-sp:Int):Rat)):=hk 133 zk;have hC:=MakesE.g (MG _ _ _ _ 1 41 w1 vz7 (sK.o.grow ak) (bI (by rw[Nat.pow_one];omega) (yA _)) Pj.o HDz.o (by decide));exact zc hC
  rintro _ ⟨IX,IZ,IS,IV,IW,IY,IR,IU,rfl⟩;simp only[Act.put,aC,aB,aA];refine aV rfl rfl (fun w1 ak _=>KB ak.size (by go_simp)) ?_;rintro _ ⟨Aj,rfl⟩;simp only[Act.put,aC,aB,aA];refine Zc ?_;intro w8 aJ hF;have vxF:ExactAt w8 (.agg (zD IX IZ IS IV IW IY IR IU)) (((sq-sp:Int):Rat)/bK b (i-1)):=hF 139;have FT:BX W9.heap.size (.pointer (some ⟨Aj,0,none⟩)) w8:=hF 13;have qjL:=zh vxF;have Av:=zh (Hy.o.grow aJ)
  obtain⟨_,e13,b13,WX⟩:=FT;injection e13 with e13;injection e13 with e13;injection e13 with e13 _ _;subst e13;have HAl:=zh (Hy.o.all_lt b13);have q0:=WX.cell 0;have q1:=WX.cell 1;have q2:=WX.cell 2;have q3:=WX.cell 3;have f0:=WX.frozen 0;have f1:=WX.frozen 1;have f2:=WX.frozen 2;have f3:=WX.frozen 3;simp only[aG,aH,aD] at q0 q1 q2 q3;have vw3:=zh WX;clear hF vxF aJ Hy bf b13 WX wE wD wC wB sK;go_wp2_with fail
  have Xp:=zh (Av.o.farB vw3.o HAl.o (.bool IX) (.slice IZ IS IV) (.bool IW) (.slice IY IR IU));have pc:=zh (ExBox.put vw3.o rfl qjL.o);generalize (((w8.setCell ⟨Aj,0,none⟩ (.bool IX)).setCell ⟨Aj,1,none⟩ (.slice IZ IS IV)).setCell ⟨Aj,2,none⟩ (.bool IW)).setCell ⟨Aj,3,none⟩ (.slice IY IR IU)=OV at*;clear Av vw3 qjL q0 q1 q2 q3 f0 f1 f2 f3;obtain⟨kU,kW,kQ,kS,kT,kV,kP,kR,a0,a1,a2,a3,rZ⟩:=Xp.o.dia.read (i:=i) (by omega)
  have sK:=zh (rZ _ (gx _ _ _));have wE:=YL a0;have wD:=YL a1;have wC:=YL a2;have wB:=YL a3;clear a0 a1 a2 a3 rZ;obtain⟨qv,qw,qt,qu,pN,pO,pL,pM,hBc,FP⟩:=pc.o;obtain⟨c0,c1,c2,c3⟩:=hBc.c4;have GI:=zh FP;have Nf:=YL c0;have Ip:=YL c1;have Nc:=YL c2;have DU:=YL c3;clear c0 c1 c2 c3 FP hBc;have bf:=zh Xp.o.st.bel;refine af 12 (fun jx=>if jx=8 then some (gE (((sq-sp:Int):Rat))) else if jx=9 then some (gE (((sq-sp:Int):Rat)/bK b (i-1)*((sq-sp:Int):Rat))) else if jx=10 then some (gE (((2*(sq-sp+(sr-sq)):Int):Rat)-((sq-sp:Int):Rat)/bK b (i-1)*((sq-sp:Int):Rat))) else none) (by kernel_rfl) (by kernel_rfl) ?_
  simp only[aM,aP,aN,aO];refine zw 8 ?_;simp only[aM,aP,aN,aO]
  repeat (go_big_quiet_step (fail))
  refine YE ?_;refine ae rfl rfl ?_ ?_
  ·intro w1 ak hk;have hb:=(bf.o).trans (ak.mono (bf.o).size);have hC:=MakesE.g (fP (sq-sp) w1 (by omega) (by omega));exact zc hC
  rintro _ ⟨IL,IQ,IG,IJ,IK,IP,IE,II,rfl⟩;simp only[Act.put,aC,aB,aA];refine ae rfl rfl ?_ ?_
  ·intro w1 ak hk;have hb:=(bf.o).trans (ak.mono (bf.o).size);have vwr:ExactAt w1 (.agg (zD IL IQ IG IJ IK IP IE II)) (((sq-sp:Int):Rat)):=hk 148 zk;have hC:=MakesE.g (sF _ _ _ _ 42 1 w1 (GI.o.grow ak) vwr (eY (K:=1) (M:=41) HDz.o (bI (by rw[Nat.pow_one];omega) (yA _)) Pj.o) (bI (by rw[Nat.pow_one];omega) (yA _)) (by decide));exact zc hC
  rintro _ ⟨qx4,qx6,qx0,qx2,qx3,qx5,qxZ,qx1,rfl⟩;simp only[Act.put,aC,aB,aA];refine ae rfl rfl ?_ ?_
  ·intro w1 ak hk;have hb:=(bf.o).trans (ak.mono (bf.o).size);have vz3:ExactAt w1 (.agg (zD qx4 qx6 qx0 qx2 qx3 qx5 qxZ qx1)) (((sq-sp:Int):Rat)/bK b (i-1)*((sq-sp:Int):Rat)):=hk 149 zk;have hC:=MakesE.g (je _ _ _ _ 1 43 w1 (sK.o.grow ak) vz3 HDd.o (ig (K:=42) (M:=1) (eY (K:=1) (M:=41) HDz.o (bI (by rw[Nat.pow_one];omega) (yA _)) Pj.o) (bI (by rw[Nat.pow_one];omega) (yA _))) (by decide));exact zc hC
  rintro _ ⟨xa,xf,wW,wY,wZ,xc,wV,wX,rfl⟩;simp only[Act.put,aC,aB,aA];refine zw 1 ?_;simp only[aM,aP,aN,aO]
  repeat (go_big_quiet_step (fail))
  refine YE ?_;refine Zc ?_;intro w8 aJ hF;have Zi:ExactAt w8 (.agg (zD xa xf wW wY wZ xc wV wX)) (((2*(sq-sp+(sr-sq)):Int):Rat)-((sq-sp:Int):Rat)/bK b (i-1)*((sq-sp:Int):Rat)):=hF 150;have qjJ:=zh Zi;have Ww:=zh (Xp.o.grow aJ);have HBy:=zh (pc.o.grow aJ);obtain⟨_,_,_,_,_,_,_,_,o0,o1,o2,o3,-⟩:=Ww.o.dia.read (i:=i) (by omega);have nO:=Ww.o.dia.frozen (i*4);have nN:=Ww.o.dia.frozen (i*4+1);have nM:=Ww.o.dia.frozen (i*4+2)
  have nL:=Ww.o.dia.frozen (i*4+3);clear hF Zi aJ Xp pc bf wE wD wC wB sK Nf Ip Nc DU GI;go_wp2_with fail;have HRd:=zh (Ww.o.putD (i:=i) (by omega) qjJ.o);obtain⟨csd,CB⟩:=Ww.o.dia.blk;have wd:=zh (HBy.o.far CB (Nat.ne_of_gt (HAl.o gd (by simp))) (i*4) (.bool xa) (.slice xf wW wY) (.bool wZ) (.slice xc wV wX));generalize ((((w8.setCell ⟨gd,i*4,none⟩ (.bool xa)).setCell ⟨gd,i*4+1,none⟩ (.slice xf wW wY)).setCell ⟨gd,i*4+2,none⟩ (.bool wZ)).setCell ⟨gd,i*4+3,none⟩ (.slice xc wV wX))=W11 at*
  clear Ww HBy CB qjJ o0 o1 o2 o3 nO nN nM nL;obtain⟨kU,kW,kQ,kS,kT,kV,kP,kR,a0,a1,a2,a3,rZ⟩:=HRd.o.rgt.read (i:=i) (by omega);have sK:=zh (rZ _ (gx _ _ _));have wE:=YL a0;have wD:=YL a1;have wC:=YL a2;have wB:=YL a3;clear a0 a1 a2 a3 rZ;obtain⟨qv,qw,qt,qu,pN,pO,pL,pM,hBc,FP⟩:=wd.o;obtain⟨c0,c1,c2,c3⟩:=hBc.c4;have GI:=zh FP;have Nf:=YL c0;have Ip:=YL c1;have Nc:=YL c2;have DU:=YL c3;clear c0 c1 c2 c3 FP hBc
  obtain⟨Qj,Ql,Pr,Qh,Qi,Qk,Pq,Qg,d0,d1,d2,d3,UT⟩:=HRd.o.rgt.read (i:=(i-1)) (by omega);have WH:=zh (UT _ ((xk _ _ (by omega)).trans (rr _ (by omega) (by omega))));have Qc:=YL d0;have Qb:=YL d1;have Qa:=YL d2;have PZ:=YL d3;clear d0 d1 d2 d3 UT;have bf:=zh HRd.o.st.bel;refine af 15 (fun jx=>if jx=12 then some (gE (((sq-sp:Int):Rat)/bK b (i-1)*gK b (i-1))) else if jx=13 then some (gE (ki b i-((sq-sp:Int):Rat)/bK b (i-1)*gK b (i-1))) else none) (by kernel_rfl) (by kernel_rfl) ?_
  simp only[aM,aP,aN,aO];refine zw 12 ?_;simp only[aM,aP,aN,aO]
  repeat (go_big_quiet_step (fail))
  refine YE ?_;refine ae rfl rfl ?_ ?_
  ·intro w1 ak hk;have hb:=(bf.o).trans (ak.mono (bf.o).size);have hC:=MakesE.g (sF _ _ _ _ 42 6200 w1 (GI.o.grow ak) (WH.o.grow ak) (eY (K:=1) (M:=41) HDz.o (bI (by rw[Nat.pow_one];omega) (yA _)) Pj.o) HRf.o (by decide));exact zc hC
  rintro _ ⟨qxG,qxI,qxC,qxE,qxF,qxH,qxB,qxD,rfl⟩;simp only[Act.put,aC,aB,aA];refine ae rfl rfl ?_ ?_
  ·intro w1 ak hk;have hb:=(bf.o).trans (ak.mono (bf.o).size);have vzZ:ExactAt w1 (.agg (zD qxG qxI qxC qxE qxF qxH qxB qxD)) (((sq-sp:Int):Rat)/bK b (i-1)*gK b (i-1)):=hk 164 zk;have hC:=MakesE.g (je _ _ _ _ 493 6242 w1 (sK.o.grow ak) vzZ HFR.o (ig (K:=42) (M:=6200) (eY (K:=1) (M:=41) HDz.o (bI (by rw[Nat.pow_one];omega) (yA _)) Pj.o) HRf.o) (by decide));exact zc hC
  rintro _ ⟨Sp,Sr,Sk,Sm,Sn,Sq,Sj,Sl,rfl⟩;simp only[Act.put,aC,aB,aA];refine zw 1 ?_;simp only[aM,aP,aN,aO]
  repeat (go_big_quiet_step (fail))
  refine YE ?_;refine Zc ?_;intro w8 aJ hF;have vxE:ExactAt w8 (.agg (zD Sp Sr Sk Sm Sn Sq Sj Sl)) (ki b i-((sq-sp:Int):Rat)/bK b (i-1)*gK b (i-1)):=hF 165;have qjH:=zh vxE;have sJ:=zh (HRd.o.grow aJ);obtain⟨_,_,_,_,_,_,_,_,o0,o1,o2,o3,-⟩:=sJ.o.rgt.read (i:=i) (by omega);have nO:=sJ.o.rgt.frozen (i*4);have nN:=sJ.o.rgt.frozen (i*4+1);have nM:=sJ.o.rgt.frozen (i*4+2);have nL:=sJ.o.rgt.frozen (i*4+3)
  clear hF vxE aJ HRd wd bf wE wD wC wB sK Nf Ip Nc DU GI Qc Qb Qa PZ WH;go_wp2_with fail;have vxN:=zh (sJ.o.putR (i:=i) (by omega) qjH.o);generalize ((((w8.setCell ⟨gr,i*4,none⟩ (.bool Sp)).setCell ⟨gr,i*4+1,none⟩ (.slice Sr Sk Sm)).setCell ⟨gr,i*4+2,none⟩ (.bool Sn)).setCell ⟨gr,i*4+3,none⟩ (.slice Sq Sj Sl))=W12 at*;have HRn:Y0 (MomRows w W12 b (zC b (some ⟨bs,os,none⟩) cs Al cl) g5 g6 go gd gr (eh (eh (fun _=>none) 0 (bu b)) (b.sup.length-1) (bu (al b))) (gq (bK b) (i+1)) (gq (gK b) (i+1))):=by
   unfold Y0;rw[m8 _ Py,m8 _ Py,tR.o,iq.o,←gy (gq (gK b) i) i (ki b i),←gy (gq (bK b) i) i ((2*(sq-sp+(sr-sq)):Int):Rat)];exact vxN.o
  clear sJ vxN qjH o0 o1 o2 o3 nO nN nM nL;go_roundw
  case rel=>exact⟨i+1,by omega,by omega,by go_num,HRn⟩
  simp[intOf];omega
 obtain xQ:i=b.sup.length-1:=by omega
 subst xQ;have HO:Y0 (MomRows w wr b (zC b (some ⟨bs,os,none⟩) cs Al cl) g5 g6 go gd gr (qc b (b.sup.length-2)) (gq (bK b) (b.sup.length-1)) (gq (gK b) (b.sup.length-1))):=HR.o.weakO fun j q hj h=>G8 b (by omega) hj h;have kz:decide (((b.sup.length-1:Nat):Int)<(b.sup.length:Int)-1)=false:=yC (by omega);have kz2:((b.sup.length-1:Nat):Int)=(b.sup.length:Int)-1:=by omega
 rw[kz2] at kz⊢;have kz3:(b.sup.length:Int)-2=((b.sup.length-2:Nat):Int):=by omega
 have KZ:=zh kz3;clear HR ff k0 k01 kz2 kz3;go_wp2_with fail;rw[KZ.o];clear KZ kz;go_loopw [14] (fun ix wr=>∃i:Nat,i+2≤b.sup.length∧ix=.int .i64 i∧Y0 (MomRows w wr b (zC b (some ⟨bs,os,none⟩) cs Al cl) g5 g6 go gd gr (qc b i) (gq (bK b) (b.sup.length-1)) (gq (gK b) (b.sup.length-1)))) (fun ix _=>(intOf ix).toNat)
 case atStart=>exact⟨b.sup.length-2,by omega,rfl,HO⟩
 clear HO;obtain⟨i,him,rfl,HR⟩:=hrel;have k01:(i:Int)≤10:=by omega
 rcases Nat.eq_zero_or_pos i with h0|h0
 ·subst h0;have HX:=zh (HR.o.o.weak fun j q _ h=>OR b h);have HBl:=zh HR.o.st.bel;clear HR;go_wp2_with fail;refine YF (results_tmp2 rfl _ _ _) (by rfl) ?_;exact⟨HBl.o,.slice (some ⟨go,0,none⟩) b.sup.length b.sup.length,by rw[HT.o];rfl,go,by rw[rN],by rw[rN];exact HX.o⟩
 have k0:(1:Int)≤(i:Int):=by omega
 have k02:(0:Int)<(i:Int):=by omega
 obtain⟨y0,y1,y2,y3,y4⟩:=HR.o.st.bm.c5;have z1:=(HR.o.st.bel.cell (p:=⟨bs,os+i,none⟩) gg).trans (np.o i (by omega));have z2:=(HR.o.st.bel.cell (p:=⟨bs,os+(i+1),none⟩) gg).trans (np.o (i+1) (by omega));have t1:=Hb.o.sup i (by omega);have t2:=Hb.o.inc i (by omega);have t3:=Hb.o.sup (i+1) (by omega);have t4:=Hb.o.len;have HN:Y0 (aX b (i+1)=ah b (i+1)-ah b i):=rfl;have HMs:=zh (TT b h0 (show i+1<b.sup.length by omega))
 rw[HN.o] at HMs;have HDz:=zh (mZ Hb.o (i:=i) h0 (by omega));have Pj:=zh (aI (M:=41) (iR Hb.o i h0 (by omega)) (by omega));have HRf:=zh (aI (M:=6200) (nU Hb.o i h0 (by omega)) (by omega));have HMf:=zh (kk Hb.o (i:=i+1) (by omega));generalize ah b i=sq at*;generalize ah b (i+1)=sr at*;obtain⟨t11,t12⟩:=t1;obtain⟨t31,t32⟩:=t3;obtain⟨t41,t42⟩:=t4;have i3:((i:Int)+1).toNat=i+1:=by omega
 have i6:(i:Int)+1<(b.sup.length:Int):=by omega
 have i7:(i:Int)<(b.sup.length:Int):=by omega
 have i8:(0:Int)≤(i:Int):=by omega
 have i9:(0:Int)≤(i:Int)+1:=by omega
 have v2:IntKind.i64.wrap ((i:Int)+1)=(i:Int)+1:=yF _ (by omega);have v4:IntKind.i64.wrap (sr-sq)=sr-sq:=yF _ (by omega);go_wp2_with fail;go_quiet (fail);go_wp2_with fail;have KX:=zh (HR.o.drew nq);generalize wr.drewN nq=W9 at*;clear HR y0 y1 y2 y3 y4 z1 z2;obtain⟨kU,kW,kQ,kS,kT,kV,kP,kR,a0,a1,a2,a3,rZ⟩:=KX.o.rgt.read (i:=i) (by omega);have sK:=zh (rZ _ (rr _ h0 (by omega)));have wE:=YL a0;have wD:=YL a1
 have wC:=YL a2;have wB:=YL a3;clear a0 a1 a2 a3 rZ;obtain⟨qv,qw,qt,qu,pN,pO,pL,pM,c0,c1,c2,c3,FP⟩:=KX.o.o.read (i:=(i+1)) (by omega);have GI:=zh (FP _ (Wb b (Nat.lt_succ_self i)));have Nf:=YL c0;have Ip:=YL c1;have Nc:=YL c2;have DU:=YL c3;clear c0 c1 c2 c3 FP;obtain⟨Qj,Ql,Pr,Qh,Qi,Qk,Pq,Qg,d0,d1,d2,d3,UT⟩:=KX.o.dia.read (i:=i) (by omega);have WH:=zh (UT _ (rr _ h0 (by omega)));have Qc:=YL d0;have Qb:=YL d1
 have Qa:=YL d2;have PZ:=YL d3;clear d0 d1 d2 d3 UT;have bf:=zh KX.o.st.bel;refine af 21 (fun jx=>if jx=12 then some (gE (((sr-sq:Int):Rat))) else if jx=13 then some (gE (Zx b (i+1)*((sr-sq:Int):Rat))) else if jx=14 then some (gE (gK b i-Zx b (i+1)*((sr-sq:Int):Rat))) else if jx=19 then some (gE ((gK b i-Zx b (i+1)*((sr-sq:Int):Rat))/bK b i)) else none) (by kernel_rfl) (by kernel_rfl) ?_;simp only[aM,aP,aN,aO]
 refine zw 12 ?_;simp only[aM,aP,aN,aO]
 repeat (go_big_quiet_step (fail))
 refine YE ?_;refine ae rfl rfl ?_ ?_
 ·intro w1 ak hk;have hb:=(bf.o).trans (ak.mono (bf.o).size);have hC:=MakesE.g (fP (sr-sq) w1 (by omega) (by omega));exact zc hC
 rintro _ ⟨qxi,qxk,qxe,qxg,qxh,qxj,qxd,qxf,rfl⟩;simp only[Act.put,aC,aB,aA];refine ae rfl rfl ?_ ?_
 ·intro w1 ak hk;have hb:=(bf.o).trans (ak.mono (bf.o).size);have vzW:ExactAt w1 (.agg (zD qxi qxk qxe qxg qxh qxj qxd qxf)) (((sr-sq:Int):Rat)):=hk 197 zk;have hC:=MakesE.g (sF _ _ _ _ 60000 1 w1 (GI.o.grow ak) vzW HMf.o (bI (by rw[Nat.pow_one];omega) (yA _)) (by decide));exact zc hC
 rintro _ ⟨qxa,qxc,qw6,qw8,qw9,qxb,qw5,qw7,rfl⟩;simp only[Act.put,aC,aB,aA];refine ae rfl rfl ?_ ?_
 ·intro w1 ak hk;have hb:=(bf.o).trans (ak.mono (bf.o).size);have vzV:ExactAt w1 (.agg (zD qxa qxc qw6 qw8 qw9 qxb qw5 qw7)) (Zx b (i+1)*((sr-sq:Int):Rat)):=hk 198 zk;have hC:=MakesE.g (je _ _ _ _ 6200 60001 w1 (sK.o.grow ak) vzV HRf.o (ig (K:=60000) (M:=1) HMf.o (bI (by rw[Nat.pow_one];omega) (yA _))) (by decide));exact zc hC
 rintro _ ⟨qw2,qw4,qwY,qw0,qw1,qw3,qwX,qwZ,rfl⟩;simp only[Act.put,aC,aB,aA];refine zw 4 ?_;simp only[aM,aP,aN,aO]
 repeat (go_big_quiet_step (fail))
 refine YE ?_;refine ae rfl rfl ?_ ?_
 ·intro w1 ak hk;have hb:=(bf.o).trans (ak.mono (bf.o).size);have vwq:ExactAt w1 (.agg (zD qw2 qw4 qwY qw0 qw1 qw3 qwX qwZ)) (gK b i-Zx b (i+1)*((sr-sq:Int):Rat)):=hk 199 zk;have hC:=MakesE.g (MG _ _ _ _ 66202 41 w1 vwq (WH.o.grow ak) (dT (K:=6200) (M:=60001) HRf.o (ig (K:=60000) (M:=1) HMf.o (bI (by rw[Nat.pow_one];omega) (yA _)))) Pj.o HDz.o (by decide));exact zc hC
 rintro _ ⟨RV,RY,RQ,RS,RU,RX,RP,RR,rfl⟩;simp only[Act.put,aC,aB,aA];refine zw 1 ?_;simp only[aM,aP,aN,aO]
 repeat (go_big_quiet_step (fail))
 refine YE ?_;refine Zc ?_;intro w8 aJ hF;have vwp:ExactAt w8 (.agg (zD RV RY RQ RS RU RX RP RR)) ((gK b i-Zx b (i+1)*((sr-sq:Int):Rat))/bK b i):=hF 204;rw[←HMs.o] at vwp;have qjG:=zh vwp;have Av:=zh (KX.o.grow aJ);obtain⟨_,_,_,_,_,_,_,_,o0,o1,o2,o3,-⟩:=Av.o.o.read (i:=i) (by omega);have nO:=Av.o.o.frozen (i*4);have nN:=Av.o.o.frozen (i*4+1);have nM:=Av.o.o.frozen (i*4+2);have nL:=Av.o.o.frozen (i*4+3)
 clear hF vwp aJ KX bf wE wD wC wB sK Nf Ip Nc DU GI Qc Qb Qa PZ WH;go_wp2_with fail;have Xp:=zh (Av.o.putO (i:=i) (by omega) qjG.o);rw[KT b h0] at Xp;generalize ((((w8.setCell ⟨go,i*4,none⟩ (.bool RV)).setCell ⟨go,i*4+1,none⟩ (.slice RY RQ RS)).setCell ⟨go,i*4+2,none⟩ (.bool RU)).setCell ⟨go,i*4+3,none⟩ (.slice RX RP RR))=OV at*;clear Av qjG o0 o1 o2 o3 nO nN nM nL;go_roundw
 case rel=>exact⟨i-1,by omega,by congr 1;omega,Xp⟩
 simp[intOf];omega
