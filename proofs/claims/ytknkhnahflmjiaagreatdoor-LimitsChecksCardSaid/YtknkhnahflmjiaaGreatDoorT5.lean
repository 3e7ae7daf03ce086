/- Lemmas. -/
import Derived.Deep.RegionHeld3
import Derived.Test.YtknkhnahflmjiaaGreatDoorT4
namespace Go.Proofs.YtknkhnahflmjiaaGreatDoor
set_option maxRecDepth 100000
set_option maxHeartbeats 40000000
open Go.RowKit Go.Shelf
theorem LC (v:Value) (b:BeamT) (w:World) (hv:BeamAt w w.heap.size v b) (hb:BeamOk b):Calls Tryz.prog 190 #[v] w (AP b w):=by
 obtain⟨As,cs,Al,cl,rfl,hS,hL⟩:=hv;obtain⟨Rb,hm2⟩:=hb.sup1;obtain⟨_,_,e,_,_,td⟩:=hS.open_;injection e with e1 _ e2;subst e1 e2;obtain⟨bs,os,rfl,gL,xZ⟩:=td 0 Rb;have HV:Y0 (BeamAt w w.heap.size (.agg (zC b (some ⟨bs,os,none⟩) cs Al cl)) b):=⟨_,_,Al,cl,rfl,hS,hL⟩;have mI:Y0 (∀j,j<b.sup.length→w.cell? ⟨bs,os+j,none⟩=some (.int .i64 (ai b j))):=fun j hj=>by
  have h:=xZ j hj;unfold ai;rw[yO,yN hj];exact h
 have Hb:=zh hb;have HbT:=zh (kW hb);have HD:=zh (Blk.new w 117 (zC b (some ⟨bs,os,none⟩) cs Al cl));have HB:=zh ((yB _ w).alloc (yA _) (.cells (zC b (some ⟨bs,os,none⟩) cs Al cl) 117));clear hS hL hb td xZ;go_enter Tryz.func190,Tryz.ntmps190;go_wp2_with fail;generalize w.alloc (.cells (zC b (some ⟨bs,os,none⟩) cs Al cl) 117)=W1 at*;obtain⟨y0,y1,y2,y3,y4⟩:=HD.o.c5;go_wp2_with fail;have u0:=YL y0;have u1:=YL y1
 have u2:=YL y2;have u3:=YL y3;have u4:=YL y4;clear y0 y1 y2 y3 y4;refine dt 7 (fun jx=>if jx=1 then some (gE (bG b)) else if jx=3 then some (gB (ao b)) else if jx=4 then some (gE (bG (ao b))) else if jx=5 then some (gA W1.heap.size) else if jx=6 then some (gA W1.heap.size) else none) [5,6] (by kernel_rfl) (by kernel_rfl) (by kernel_rfl) (kV rfl rfl) ?_;simp only[aO,aR,aP,aQ];refine zw 1 ?_;simp only[aO,aR,aP,aQ]
 repeat (go_big_quiet_step (fail))
 refine YE ?_;refine ae rfl rfl ?_ ?_
 ·intro w1 ak hk;have hb:=(HB.o).trans (ak.mono (HB.o).size);have hC:=MakesE.g (S0 _ b w1 ((HV.o.below hb (yA _)).mono hb.size) Hb.o);exact zc hC
 rintro _ ⟨Ci,Ck,Ce,Cg,Ch,Cj,Cd,Cf,rfl⟩;simp only[Act.put,aw,av,au];refine zw 1 ?_;simp only[aO,aR,aP,aQ]
 repeat (go_big_quiet_step (fail))
 refine YE ?_;refine ae rfl rfl ?_ ?_
 ·intro w1 ak hk;have hb:=(HB.o).trans (ak.mono (HB.o).size);have hC:=TurnedPost.g (DN _ b w1 ((HV.o.below hb (yA _)).mono hb.size) Hb.o);exact zc hC
 rintro _ ⟨tAs,tcs,tAl,tcl,rfl⟩;simp only[Act.put,aw,av,au];refine ae rfl rfl ?_ ?_
 ·intro w1 ak hk;have hb:=(HB.o).trans (ak.mono (HB.o).size);have h22:BeamAt w1 w1.heap.size (.agg (zC (ao b) tAs tcs tAl tcl)) (ao b):=hk 22 (by decide);have hC:=MakesE.g (S0 _ (ao b) w1 h22 HbT.o);exact zc hC
 rintro _ ⟨O7,O9,O3,O5,O6,O8,O2,O4,rfl⟩;simp only[Act.put,aw,av,au];refine aX rfl rfl (fun w1 ak _=>Ie ak.size (by go_simp)) ?_;rintro _ ⟨g5,rfl⟩;simp only[Act.put,aw,av,au];refine aX rfl rfl (fun w1 ak _=>Ie ak.size (by go_simp)) ?_;rintro _ ⟨g6,rfl⟩;simp only[Act.put,aw,av,au];refine Zc ?_;intro w8 aT hF hA;have Mx:ExactAt w8 (.agg (zD Ci Ck Ce Cg Ch Cj Cd Cf)) (bG b):=hF 20;have XI:ExactAt w8 (.agg (zD O7 O9 O3 O5 O6 O8 O2 O4)) (bG (ao b)):=hF 23
 have h5:zm W1.heap.size (.pointer (some ⟨g5,0,none⟩)) w8:=hF 5;have h6:zm W1.heap.size (.pointer (some ⟨g6,0,none⟩)) w8:=hF 6;have Ln:g6≠g5:=fun e=>(hA 5 (by simp) g5 rfl).2 6 (by simp) (by decide) (by rw[e];rfl);have HFx:=zh Mx;have HFy:=zh XI;have D8:=HD.o.below aT HD.o.lt;have B8:=HB.o.trans (aT.mono HB.o.size);have b5:=h5;have b6:=h6;obtain⟨_,e5,-,b5⟩:=b5;obtain⟨_,e6,-,b6⟩:=b6;injection e5 with e5
 injection e5 with e5;injection e5 with e5 _ _;injection e6 with e6;injection e6 with e6;injection e6 with e6 _ _;subst e5 e6;have c50:=b5.cell 0;have f50:=b5.frozen 0;have c51:=b5.cell 1;have f51:=b5.frozen 1;have c52:=b5.cell 2;have f52:=b5.frozen 2;have c53:=b5.cell 3;have f53:=b5.frozen 3;have c60:=b6.cell 0;have Du:=b6.frozen 0;have c61:=b6.cell 1;have Dt:=b6.frozen 1;have c62:=b6.cell 2;have f62:=b6.frozen 2
 have c63:=b6.cell 3;have f63:=b6.frozen 3;simp only[aB,aD,aA] at c50 c51 c52 c53 c60 c61 c62 c63;have H5:=zh h5;have H6:=zh h6;have H56:=zh Ln;have bp:=zh D8;have eG:=zh B8;have M0:=zh HD.o.lt;have vwT:¬(g6=g5):=Ln;clear hF hA u0 u1 u2 u3 u4 Mx XI h5 h6 Ln aT D8 B8 b5 b6 HD HB;by_cases hm:b.sup.length=1
 ·have hd:((b.sup.length:Int)==1)=true:=beq_iff_eq.2 (by omega);have HT:Y0 (cK b=(iI (bG b-bG (ao b)).num==0)):=by unfold Y0 cK;rw[if_pos hm,Kv]
  have HL:Y0 (rX b=[bG b]):=by unfold Y0 rX;rw[hm];rfl
  clear hm;go_wp2_with fail;have hM:=MomSt.start bp.o eG.o M0.o H5.o H6.o H56.o HFx.o HFy.o;generalize ((((((((w8.setCell ⟨g5,0,none⟩ (.bool Ci)).setCell ⟨g5,1,none⟩ (.slice Ck Ce Cg)).setCell ⟨g5,2,none⟩ (.bool Ch)).setCell ⟨g5,3,none⟩ (.slice Cj Cd Cf)).setCell ⟨g6,0,none⟩ (.bool O7)).setCell ⟨g6,1,none⟩ (.slice O9 O3 O5)).setCell ⟨g6,2,none⟩ (.bool O6)).setCell ⟨g6,3,none⟩ (.slice O8 O2 O4))=W9 at*
  obtain⟨li,lk,kY,lg,lh,lj,kX,lf,hB,hE⟩:=hM.fst;obtain⟨y0,y1,y2,y3⟩:=hB.c4;have u0:=YL y0;have u1:=YL y1;have u2:=YL y2;have u3:=YL y3;clear y0 y1 y2 y3;obtain⟨MR,MU,Mk,MP,MQ,MS,Mj,MO,wT,Aj⟩:=hM.lst;obtain⟨xy0,xy1,xy2,xy3⟩:=wT.c4;have xu0:=YL xy0;have xu1:=YL xy1;have xu2:=YL xy2;have xu3:=YL xy3;clear xy0 xy1 xy2 xy3;have iW:=zh hM.bel;have HE:=zh hE;have gn:=zh Aj;clear hM hE Aj hB wT c50 c51 c52 c53 c60 c61 c62 c63 f50 f51 f52 f53 Du Dt f62 f63 H5 H6 HFx HFy bp eG
  refine af 9 (fun jx=>if jx=1 then some (gX (bG b)) else if jx=4 then some (gE (bG b-bG (ao b))) else if jx=6 then some (gV (.int .i64 (iI (bG b-bG (ao b)).num))) else none) (by kernel_rfl) (by kernel_rfl) ?_;simp only[aO,aR,aP,aQ];refine zw 1 ?_;simp only[aO,aR,aP,aQ]
  repeat (go_big_quiet_step (fail))
  refine YE ?_;refine aX rfl rfl (fun w1 ak _=>qzc (HE.o.grow ak) (by go_simp)) ?_;rintro _ ⟨g27,rfl⟩;simp only[Act.put,aw,av,au];refine zw 2 ?_;simp only[aO,aR,aP,aQ]
  repeat (go_big_quiet_step (fail))
  refine YE ?_;refine ae rfl rfl ?_ ?_
  ·intro w1 ak hk;have hb:=(iW.o).trans (ak.mono (iW.o).size);have hC:=MakesE.g (jg _ _ _ _ 247 247 w1 (HE.o.grow ak) (gn.o.grow ak) (dH Hb.o) (dH HbT.o) (by decide));exact zc hC
  rintro _ ⟨WS,WT,WQ,WR,qvY,qvZ,qvW,qvX,rfl⟩;simp only[Act.put,aw,av,au];refine MF (v:=.agg #[.bool WS,.slice WT WQ WR]) rfl rfl (fun w1=>by kernel_rfl) ?_;simp only[Act.put,aw,av,au];refine ae rfl rfl ?_ ?_
  ·intro w1 ak hk;have hb:=(iW.o).trans (ak.mono (iW.o).size);have h30:ExactAt w1 (.agg (zD WS WT WQ WR qvY qvZ qvW qvX)) (bG b-bG (ao b)):=hk 31 (by decide) 30 (by decide);obtain⟨_,_,_,_,_,_,_,_,e30,vqQ,-⟩:=h30.form;have hC:=qzn e30 vqQ;exact zc hC
  rintro _ rfl;simp only[Act.put,aw,av,au];refine zw 2 ?_;simp only[aO,aR,aP,aQ]
  repeat (go_big_quiet_step (fail))
  refine YE ?_;refine Zc ?_;intro w8 aT hF;have h27:ExsAt w8 (.slice (some ⟨g27,0,none⟩) 1 1) [bG b]:=hF 27;have Eo:=zh (iW.o.trans (aT.mono iW.o.size));have H27:=zh h27;clear hF h27 aT u0 u1 u2 u3 xu0 xu1 xu2 xu3 HE gn iW;go_wp2_with fail;refine YF (results_tmp2 rfl _ _ _) (by rfl) ?_;exact⟨Eo.o,_,by rw[HT.o];rfl,by rw[HL.o];exact H27.o⟩
 have hd:((b.sup.length:Int)==1)=false:=zb (by omega);have HT:Y0 (cK b=true):=by unfold Y0 cK;rw[if_neg hm]
 have vqG:2≤b.sup.length:=by omega
 obtain⟨iE,GX,pX,pW,sk⟩:=info_parts pV;have cm:iE.bytes*b.sup.length≤281474976710656:=by rw[sk];omega
 clear hm;have hM:=MomSt.start bp.o eG.o M0.o H5.o H6.o H56.o HFx.o HFy.o;have HM:=zh hM;clear hM;go_wp2_with (at_make;refine wpList_make_full _ rfl _ _ 172 rfl _ 223 iE (.agg (zD false none 0 0 false none 0 0)) 4 Tryz.underlying172 GX pX pW .i64 .i64 _ _ b.sup.length rfl rfl rfl rfl cm (by unfold maxLen;omega) (Nat.le_refl _) ?_;intro zp vI oD);have oW:=zh (ExRow.made vI);have I1:Y0 (MomSt w zp b (zC b (some ⟨bs,os,none⟩) cs Al cl) g5 g6):=HM.o.grow ((yB _ _).grown oD (yA _) (fun k hk=>by cases hk))
 have mO:Y0 (g5<w8.heap.size∧g6<w8.heap.size∧w.heap.size<w8.heap.size):=by
  obtain⟨_,e5,_,b5⟩:=H5.o;obtain⟨_,e6,_,b6⟩:=H6.o;injection e5 with e5;injection e5 with e5;injection e5 with e5 _ _;injection e6 with e6;injection e6 with e6;injection e6 with e6 _ _;subst e5 e6;exact⟨b5.lt,b6.lt,bp.o.lt⟩
 have qkw:(((((((((w8.setCell ⟨g5,0,none⟩ (.bool Ci)).setCell ⟨g5,1,none⟩ (.slice Ck Ce Cg)).setCell ⟨g5,2,none⟩ (.bool Ch)).setCell ⟨g5,3,none⟩ (.slice Cj Cd Cf)).setCell ⟨g6,0,none⟩ (.bool O7)).setCell ⟨g6,1,none⟩ (.slice O9 O3 O5)).setCell ⟨g6,2,none⟩ (.bool O6)).setCell ⟨g6,3,none⟩ (.slice O8 O2 O4))).heap.size=w8.heap.size:=by simp[World.setCell]
 rw[qkw] at oW;obtain⟨go,qjz⟩:=zo (w8.heap.size);rw[qjz] at oW mO;simp only[qjz];have Br:Y0 (g5<go):=mO.o.1;have HG2:Y0 (g6<go):=mO.o.2.1;have HG3:Y0 (w.heap.size<go):=mO.o.2.2;clear qjz qkw vI oD cm GX pX pW sk mO HM H5 H6 HFx HFy bp eG c50 c51 c52 c53 c60 c61 c62 c63 f50 f51 f52 f53 Du Dt f62 f63;obtain⟨li,lk,kY,lg,lh,lj,kX,lf,hB,hE⟩:=I1.o.fst;obtain⟨MR,MU,Mk,MP,MQ,MS,Mj,MO,wT,Aj⟩:=I1.o.lst;have p0:=hB.cell 0
 have p1:=hB.cell 1;have p2:=hB.cell 2;have p3:=hB.cell 3;have x0:=wT.cell 0;have x1:=wT.cell 1;have x2:=wT.cell 2;have x3:=wT.cell 3;obtain⟨_,_,_,_,_,_,_,_,o0,o1,o2,o3,-⟩:=oW.o.read (i:=0) (by omega);obtain⟨_,_,_,_,_,_,_,_,l0,l1,l2,l3,-⟩:=oW.o.read (i:=b.sup.length-1) (by omega);simp only[aB,aD,aA,Nat.zero_mul,Nat.zero_add] at p0 p1 p2 p3 x0 x1 x2 x3 o0 o1 o2 o3;have fz:=oW.o.frozen;have ng:=fz 0
 have na:=fz 1;have mZ:=fz 2;have mY:=fz 3;have fl0:=fz ((b.sup.length-1)*4);have fl1:=fz ((b.sup.length-1)*4+1);have fl2:=fz ((b.sup.length-1)*4+2);have fl3:=fz ((b.sup.length-1)*4+3);have HE:=zh hE;have gn:=zh Aj;have j0:(0:Int)≤(b.sup.length:Int)-1:=by omega
 have j1:(b.sup.length:Int)-1<(b.sup.length:Int):=by omega
 have j2:((b.sup.length:Int)-1).toNat=b.sup.length-1:=by omega
 have j3:(0:Int)<(b.sup.length:Int):=by omega
 have j4:0<b.sup.length:=by omega
 have j5:IntKind.i64.wrap ((b.sup.length:Int)-1)=(b.sup.length:Int)-1:=yF _ (by omega);have j6:(1:Int)≤(b.sup.length:Int):=by omega
 have n5:g5≠go:=Nat.ne_of_lt Br.o;have n6:g6≠go:=Nat.ne_of_lt HG2.o;have n5':go≠g5:=Ne.symm n5;have n6':go≠g6:=Ne.symm n6;clear hB wT hE Aj fz;go_region_held3 (fun w'=>w'.cell? ⟨g5,0,none⟩=some (.bool li)∧w'.cell? ⟨g5,1,none⟩=some (.slice lk kY lg)∧w'.cell? ⟨g5,2,none⟩=some (.bool lh)∧w'.cell? ⟨g5,3,none⟩=some (.slice lj kX lf)∧w'.cell? ⟨g6,0,none⟩=some (.bool MR)∧w'.cell? ⟨g6,1,none⟩=some (.slice MU Mk MP)∧w'.cell? ⟨g6,2,none⟩=some (.bool MQ)∧w'.cell? ⟨g6,3,none⟩=some (.slice MS Mj MO)) (go_keep) (fail)
 have R1:=oW.o.write (i:=0) (by omega) HE.o;obtain⟨cs6,hk6⟩:=oW.o.blk;have E26:=gn.o.set4 hk6 (0*4) (.bool li) (.slice lk kY lg) (.bool lh) (.slice lj kX lf);have R2:=R1.write (i:=b.sup.length-1) (by omega) E26;have M1:=I1.o.set4 hk6 HG3.o n5' n6' (0*4) (.bool li) (.slice lk kY lg) (.bool lh) (.slice lj kX lf);obtain⟨cs7,hk7⟩:=R1.blk;have M2:=M1.set4 hk7 HG3.o n5' n6' ((b.sup.length-1)*4) (.bool MR) (.slice MU Mk MP) (.bool MQ) (.slice MS Mj MO)
 simp only[Nat.zero_mul,Nat.zero_add] at R2 M2;have mV:=zh (R2.grow (yB _ _).drew);have Bp:=zh (M2.grow (yB _ _).drew);generalize ((((((((zp.setCell ⟨go,0,none⟩ (.bool li)).setCell ⟨go,1,none⟩ (.slice lk kY lg)).setCell ⟨go,2,none⟩ (.bool lh)).setCell ⟨go,3,none⟩ (.slice lj kX lf)).setCell ⟨go,(b.sup.length-1)*4,none⟩ (.bool MR)).setCell ⟨go,(b.sup.length-1)*4+1,none⟩ (.slice MU Mk MP)).setCell ⟨go,(b.sup.length-1)*4+2,none⟩ (.bool MQ)).setCell ⟨go,(b.sup.length-1)*4+3,none⟩ (.slice MS Mj MO)).drew=W11 at*
 have HN:Y0 (go≠g5∧go≠g6):=⟨n5',n6'⟩;clear R1 R2 M1 M2 E26 hk6 hk7 oW I1 HE gn p0 p1 p2 p3 x0 x1 x2 x3 o0 o1 o2 o3 l0 l1 l2 l3 ng na mZ mY fl0 fl1 fl2 fl3 j0 j1 j2 j3 j4 j5 j6 n5 n6 n5' n6' Br HG2;go_wp2_with fail;refine dt 5 (fun i=>if i=1 then some (gR W11.heap.size b.sup.length) else if i=3 then some (gR W11.heap.size b.sup.length) else none) [45,47] (by kernel_rfl) (by kernel_rfl) (by kernel_rfl) (kV rfl rfl) ?_
 simp only[aO,aR,aP,aQ];refine zw 1 ?_;simp only[aO,aR,aP,aQ]
 repeat (go_big_quiet_step (fail))
 refine YE ?_;refine aX rfl rfl (fun w1 ak _=>RH rfl rfl rfl (by omega) ak.size) ?_;rintro _ ⟨gd,rfl⟩;simp only[Act.put,aw,av,au];refine zw 1 ?_;simp only[aO,aR,aP,aQ]
 repeat (go_big_quiet_step (fail))
 refine YE ?_;refine aX rfl rfl (fun w1 ak _=>RH rfl rfl rfl (by omega) ak.size) ?_;rintro _ ⟨gr,rfl⟩;simp only[Act.put,aw,av,au];refine zw 1 ?_;simp only[aO,aR,aP,aQ]
 repeat (go_big_quiet_step (fail))
 refine YE ?_;refine Zc ?_;intro Wl Ah hF hA;have h45:Tt W11.heap.size b.sup.length (.slice (some ⟨gd,0,none⟩) b.sup.length b.sup.length) Wl:=hF 45;have h47:Tt W11.heap.size b.sup.length (.slice (some ⟨gr,0,none⟩) b.sup.length b.sup.length) Wl:=hF 47;have hdr:gr≠gd:=fun e=>(hA 45 (by simp) gd rfl).2 47 (by simp) (by decide) (by rw[e];rfl);have HMR:Y0 (MomRows w Wl b (zC b (some ⟨bs,os,none⟩) cs Al cl) g5 g6 go gd gr (eu (eu (fun _=>none) 0 (bG b)) (b.sup.length-1) (bG (ao b))) (fun _=>none) (fun _=>none)):=by
  obtain⟨_,e5,b45,r45⟩:=h45;obtain⟨_,e6,b47,r47⟩:=h47;injection e5 with e5 _ _;injection e5 with e5;injection e5 with e5 _ _;injection e6 with e6 _ _;injection e6 with e6;injection e6 with e6 _ _;subst e5 e6;have k1:=mV.o.lt;obtain⟨_,_,_,_,_,_,_,_,k2,-⟩:=Bp.o.fst;obtain⟨_,_,_,_,_,_,_,_,k3,-⟩:=Bp.o.lst;have k2:=k2.lt;have k3:=k3.lt;have k4:=Bp.o.bm.lt;exact⟨Bp.o.grow Ah,mV.o.grow Ah,r45,r47,⟨HG3.o,by omega,by omega⟩,HN.o,⟨by omega,by omega⟩,⟨by omega,by omega⟩,⟨by omega,by omega,Ne.symm hdr⟩⟩
 clear hF hA h45 h47 hdr Ah Bp mV HN HG3;go_wp2_with fail;have qk8:Y0 (MomRows w Wl b (zC b (some ⟨bs,os,none⟩) cs Al cl) g5 g6 go gd gr (eu (eu (fun _=>none) 0 (bG b)) (b.sup.length-1) (bG (ao b))) (gG (bN b) 1) (gG (gS b) 1)):=by rw[xC,xC];exact HMR.o
 clear HMR;go_loopw [10] (fun ix wr=>∃i:Nat,1≤i∧i+1≤b.sup.length∧ix=.int .i64 i∧Y0 (MomRows w wr b (zC b (some ⟨bs,os,none⟩) cs Al cl) g5 g6 go gd gr (eu (eu (fun _=>none) 0 (bG b)) (b.sup.length-1) (bG (ao b))) (gG (bN b) i) (gG (gS b) i))) (fun ix _=>b.sup.length-(intOf ix).toNat)
 case atStart=>exact⟨1,yA _,vqG,rfl,qk8⟩
 clear qk8;obtain⟨i,Ms,him,rfl,HR⟩:=hrel;have k0:(1:Int)≤(i:Int):=by omega
 have k01:(i:Int)≤10:=by omega
 by_cases ta:i+1<b.sup.length
 ·have k1:(i:Int)<(b.sup.length:Int)-1:=by omega
  obtain⟨y0,y1,y2,y3,y4⟩:=HR.o.st.bm.c5;have kg:=zh (mI.o (i-1) (by omega));have lP:=zh (mI.o i (by omega));have mX:=zh (mI.o (i+1) (by omega));have z0:=(HR.o.st.bel.cell (p:=⟨bs,os+(i-1),none⟩) gL).trans (mI.o (i-1) (by omega));have z1:=(HR.o.st.bel.cell (p:=⟨bs,os+i,none⟩) gL).trans (mI.o i (by omega));have z2:=(HR.o.st.bel.cell (p:=⟨bs,os+(i+1),none⟩) gL).trans (mI.o (i+1) (by omega));have t0:=Hb.o.sup (i-1) (by omega)
  have t1:=Hb.o.inc (i-1) (by omega);have t2:=Hb.o.inc i ta;have t3:=Hb.o.sup (i+1) ta;have t4:=Hb.o.len;rw[show i-1+1=i by omega] at t1;have HK:Y0 (bk b i=ai b i-ai b (i-1)):=rfl;have HN:Y0 (bk b (i+1)=ai b (i+1)-ai b i):=rfl;have HRH:Y0 (jS b i=((0:Int):Rat)-cZ b (ai b (i-1)) (ai b i) true-cZ b (ai b i) (ai b (i+1)) false):=rfl;have HSF:=lZ Hb.o (i:=i-1) (by omega) true;rw[show i-1+1=i by omega] at HSF
  have HSF:=zh HSF;have vwy:=zh (lZ Hb.o (i:=i) ta false);generalize ai b (i-1)=sp at*;generalize ai b i=sq at*;generalize ai b (i+1)=sr at*;obtain⟨t01,t02⟩:=t0;obtain⟨t31,t32⟩:=t3;obtain⟨t41,t42⟩:=t4;have i2:((i:Int)-1).toNat=i-1:=by omega
  have i3:((i:Int)+1).toNat=i+1:=by omega
  have i4:(0:Int)≤(i:Int)-1:=by omega
  have i5:(i:Int)-1<(b.sup.length:Int):=by omega
  have i6:(i:Int)+1<(b.sup.length:Int):=by omega
  have i7:(i:Int)<(b.sup.length:Int):=by omega
  have i8:(0:Int)≤(i:Int):=by omega
  have i9:(0:Int)≤(i:Int)+1:=by omega
  have v1:IntKind.i64.wrap ((i:Int)-1)=(i:Int)-1:=yF _ (by omega);have v2:IntKind.i64.wrap ((i:Int)+1)=(i:Int)+1:=yF _ (by omega);have v3:IntKind.i64.wrap (sq-sp)=sq-sp:=yF _ (by omega);have v4:IntKind.i64.wrap (sr-sq)=sr-sq:=yF _ (by omega);go_wp2_with fail;go_quiet (fail);go_wp2_with fail;refine (fU _ _ (by omega) (by omega)).mono ?_;rintro e w5 ⟨bf,v5,rfl,H8⟩;obtain⟨qj0,qj2,qjW,qjY,qjZ,qj1,qjV,qjX,rfl,-,-⟩:=H8.form
  have E6:=zh H8;have ou:=zh ((HR.o.drew nq).grow bf);obtain⟨_,_,_,_,_,_,_,_,o0,o1,o2,o3,-⟩:=ou.o.dia.read (i:=i) (by omega);have ng:=ou.o.dia.frozen (i*4);have na:=ou.o.dia.frozen (i*4+1);have mZ:=ou.o.dia.frozen (i*4+2);have mY:=ou.o.dia.frozen (i*4+3);clear H8 bf HR;go_wp2_with fail;have ot:=zh (ou.o.putD (i:=i) (by omega) E6.o);generalize ((((w5.setCell ⟨gd,i*4,none⟩ (.bool qj0)).setCell ⟨gd,i*4+1,none⟩ (.slice qj2 qjW qjY)).setCell ⟨gd,i*4+2,none⟩ (.bool qjZ)).setCell ⟨gd,i*4+3,none⟩ (.slice qj1 qjV qjX))=W6 at*
  clear ou E6 o0 o1 o2 o3 ng na mZ mY;obtain⟨y0,y1,y2,y3,y4⟩:=ot.o.st.bm.c5;have TV:=YL y0;have TU:=YL y1;have TT:=YL y2;have TS:=YL y3;have TR:=YL y4;have z0:=(ot.o.st.bel.cell (p:=⟨bs,os+(i-1),none⟩) gL).trans kg.o;have z1:=(ot.o.st.bel.cell (p:=⟨bs,os+i,none⟩) gL).trans lP.o;have z2:=(ot.o.st.bel.cell (p:=⟨bs,os+(i+1),none⟩) gL).trans mX.o;have us0:=YL z0;have us1:=YL z1;have us2:=YL z2;clear y0 y1 y2 y3 y4 z0 z1 z2
  have bo:=zh ot.o.st.bel;refine af 32 (fun jx=>if jx=2 then some (gE (((0:Int):Rat))) else if jx=15 then some (gE (cZ b sp sq true)) else if jx=16 then some (gE (((0:Int):Rat)-cZ b sp sq true)) else if jx=29 then some (gE (cZ b sq sr false)) else if jx=30 then some (gE (((0:Int):Rat)-cZ b sp sq true-cZ b sq sr false)) else none) (by kernel_rfl) (by kernel_rfl) ?_;simp only[aO,aR,aP,aQ];refine zw 2 ?_
  simp only[aO,aR,aP,aQ]
  repeat (go_big_quiet_step (fail))
  refine YE ?_;refine ae rfl rfl ?_ ?_
  ·intro w1 ak hk;have hb:=(bo.o).trans (ak.mono (bo.o).size);have hC:=MakesE.g (fU 0 w1 (by decide) (by decide));exact zc hC
  rintro _ ⟨qzZ,qz1,qzV,qzX,qzY,qz0,qzU,qzW,rfl⟩;simp only[Act.put,aw,av,au];refine zw 12 ?_;simp only[aO,aR,aP,aQ]
  repeat (go_big_quiet_step (fail))
  refine YE ?_;refine ae rfl rfl ?_ ?_
  ·intro w1 ak hk;have hb:=(bo.o).trans (ak.mono (bo.o).size);have hC:=MakesE.g (Sx _ b sp sq true w1 ((HV.o.below hb (yA _)).mono hb.size) Hb.o (by omega) (by omega) (by omega));exact zc hC
  rintro _ ⟨qxT,qxV,qxP,qxR,qxS,qxU,qxO,qxQ,rfl⟩;simp only[Act.put,aw,av,au];refine ae rfl rfl ?_ ?_
  ·intro w1 ak hk;have hb:=(bo.o).trans (ak.mono (bo.o).size);have h88:ExactAt w1 (.agg (zD qzZ qz1 qzV qzX qzY qz0 qzU qzW)) (((0:Int):Rat)):=hk 88 zk;have vwi:ExactAt w1 (.agg (zD qxT qxV qxP qxR qxS qxU qxO qxQ)) (cZ b sp sq true):=hk 101 zk;have hC:=MakesE.g (jg _ _ _ _ 1 245 w1 h88 vwi (bL (by decide) (yA _)) HSF.o (by decide));exact zc hC
  rintro _ ⟨qxL,qxN,qxH,qxJ,qxK,qxM,qxG,qxI,rfl⟩;simp only[Act.put,aw,av,au];refine zw 12 ?_;simp only[aO,aR,aP,aQ]
  repeat (go_big_quiet_step (fail))
  refine YE ?_;refine ae rfl rfl ?_ ?_
  ·intro w1 ak hk;have hb:=(bo.o).trans (ak.mono (bo.o).size);have hC:=MakesE.g (Sx _ b sq sr false w1 ((HV.o.below hb (yA _)).mono hb.size) Hb.o (by omega) (by omega) (by omega));exact zc hC
  rintro _ ⟨qxv,qxx,qxr,qxt,qxu,qxw,qxq,qxs,rfl⟩;simp only[Act.put,aw,av,au];refine ae rfl rfl ?_ ?_
  ·intro w1 ak hk;have hb:=(bo.o).trans (ak.mono (bo.o).size);have vwh:ExactAt w1 (.agg (zD qxL qxN qxH qxJ qxK qxM qxG qxI)) (((0:Int):Rat)-cZ b sp sq true):=hk 102 zk;have vwe:ExactAt w1 (.agg (zD qxv qxx qxr qxt qxu qxw qxq qxs)) (cZ b sq sr false):=hk 115 zk;have hC:=MakesE.g (jg _ _ _ _ 247 245 w1 vwh vwe (dY (K:=1) (M:=245) (bL (by decide) (yA _)) HSF.o) vwy.o (by decide));exact zc hC
  rintro _ ⟨FW,FY,FR,FU,FV,FX,FQ,FT,rfl⟩;simp only[Act.put,aw,av,au];refine zw 1 ?_;simp only[aO,aR,aP,aQ]
  repeat (go_big_quiet_step (fail))
  refine YE ?_;refine Zc ?_;intro w8 aT hF;have qjO:ExactAt w8 (.agg (zD FW FY FR FU FV FX FQ FT)) (((0:Int):Rat)-cZ b sp sq true-cZ b sq sr false):=hF 116;rw[←HRH.o] at qjO;have Kb:=zh qjO;have pj:=zh (ot.o.grow aT);obtain⟨_,_,_,_,_,_,_,_,o0,o1,o2,o3,-⟩:=pj.o.rgt.read (i:=i) (by omega);have ng:=pj.o.rgt.frozen (i*4);have na:=pj.o.rgt.frozen (i*4+1);have mZ:=pj.o.rgt.frozen (i*4+2);have mY:=pj.o.rgt.frozen (i*4+3)
  clear hF qjO aT ot bo TV TU TT TS TR us0 us1 us2;by_cases h1:i=1
  ·have hd:((i:Int)==1)=true:=beq_iff_eq.2 (by omega);have hFR:=oz Hb.o Ms ta;have HFR:=zh hFR;have fX:Y0 (bN b i=((2*(sq-sp+(sr-sq)):Int):Rat)):=by unfold Y0;rw[←HK.o,←HN.o,h1];rfl
   have gn:Y0 (gS b i=jS b i-bG b*((sq-sp:Int):Rat)):=by unfold Y0;rw[←HK.o,h1];rfl
   clear h1 hFR;go_wp2_with fail;have tM:=zh (pj.o.putR (i:=i) (by omega) Kb.o);generalize ((((w8.setCell ⟨gr,i*4,none⟩ (.bool FW)).setCell ⟨gr,i*4+1,none⟩ (.slice FY FR FU)).setCell ⟨gr,i*4+2,none⟩ (.bool FV)).setCell ⟨gr,i*4+3,none⟩ (.slice FX FQ FT))=W9 at*;clear pj Kb o0 o1 o2 o3 ng na mZ mY;obtain⟨kA,kC,ku,k7,k8,kB,kt,ky,a0,a1,a2,a3,qX⟩:=tM.o.rgt.read (i:=i) (by omega);have rC:=zh (qX _ (gJ _ _ _))
   have uF:=YL a0;have uE:=YL a1;have uD:=YL a2;have uC:=YL a3;clear a0 a1 a2 a3 qX;obtain⟨pL,pM,pJ,pK,oM,oN,oK,oL,XF,De⟩:=tM.o.st.fst;obtain⟨c0,c1,c2,c3⟩:=XF.c4;have Em:=zh De;have Kl:=YL c0;have EK:=YL c1;have Kk:=YL c2;have B0:=YL c3;clear c0 c1 c2 c3 De XF;have bo:=zh tM.o.st.bel;refine af 12 (fun jx=>if jx=8 then some (gE (((sq-sp:Int):Rat))) else if jx=9 then some (gE (bG b*((sq-sp:Int):Rat))) else if jx=10 then some (gE (jS b i-bG b*((sq-sp:Int):Rat))) else none) (by kernel_rfl) (by kernel_rfl) ?_
   simp only[aO,aR,aP,aQ];refine zw 8 ?_;simp only[aO,aR,aP,aQ]
   repeat (go_big_quiet_step (fail))
   refine YE ?_;refine ae rfl rfl ?_ ?_
   ·intro w1 ak hk;have hb:=(bo.o).trans (ak.mono (bo.o).size);have hC:=MakesE.g (fU (sq-sp) w1 (by omega) (by omega));exact zc hC
   rintro _ ⟨qwJ,qwL,qwF,qwH,qwI,qwK,qwE,qwG,rfl⟩;simp only[Act.put,aw,av,au];refine ae rfl rfl ?_ ?_
   ·intro w1 ak hk;have hb:=(bo.o).trans (ak.mono (bo.o).size);have qjN:ExactAt w1 (.agg (zD qwJ qwL qwF qwH qwI qwK qwE qwG)) (((sq-sp:Int):Rat)):=hk 128 zk;have hC:=MakesE.g (ry _ _ _ _ 247 1 w1 (Em.o.grow ak) qjN (dH Hb.o) (bL (by rw[Nat.pow_one];omega) (yA _)) (by decide));exact zc hC
   rintro _ ⟨FE,FG,FA,FC,FD,FF,F9,FB,rfl⟩;simp only[Act.put,aw,av,au];refine ae rfl rfl ?_ ?_
   ·intro w1 ak hk;have hb:=(bo.o).trans (ak.mono (bo.o).size);have qjM:ExactAt w1 (.agg (zD FE FG FA FC FD FF F9 FB)) (bG b*((sq-sp:Int):Rat)):=hk 129 zk;have hC:=MakesE.g (jg _ _ _ _ 493 248 w1 (rC.o.grow ak) qjM HFR.o (iu (K:=247) (M:=1) (dH Hb.o) (bL (by rw[Nat.pow_one];omega) (yA _))) (by decide));exact zc hC
   rintro _ ⟨Qa,Qc,PU,PW,PZ,Qb,PT,PV,rfl⟩;simp only[Act.put,aw,av,au];refine zw 1 ?_;simp only[aO,aR,aP,aQ]
   repeat (go_big_quiet_step (fail))
   refine YE ?_;refine Zc ?_;intro w8 aT hF;have qkS:ExactAt w8 (.agg (zD Qa Qc PU PW PZ Qb PT PV)) (jS b i-bG b*((sq-sp:Int):Rat)):=hF 130;have Yf:=zh qkS;have xx:=zh (tM.o.grow aT);obtain⟨_,_,_,_,_,_,_,_,o0,o1,o2,o3,-⟩:=xx.o.rgt.read (i:=i) (by omega);have ng:=xx.o.rgt.frozen (i*4);have na:=xx.o.rgt.frozen (i*4+1);have mZ:=xx.o.rgt.frozen (i*4+2);have mY:=xx.o.rgt.frozen (i*4+3);clear hF qkS aT tM bo uF uE uD uC rC Kl EK Kk B0 Em
   go_wp2_with fail;have TI:=zh (xx.o.putR (i:=i) (by omega) Yf.o);generalize ((((w8.setCell ⟨gr,i*4,none⟩ (.bool Qa)).setCell ⟨gr,i*4+1,none⟩ (.slice Qc PU PW)).setCell ⟨gr,i*4+2,none⟩ (.bool PZ)).setCell ⟨gr,i*4+3,none⟩ (.slice Qb PT PV))=LQ at*;have HRn:Y0 (MomRows w LQ b (zC b (some ⟨bs,os,none⟩) cs Al cl) g5 g6 go gd gr (eu (eu (fun _=>none) 0 (bG b)) (b.sup.length-1) (bG (ao b))) (gG (bN b) (i+1)) (gG (gS b) (i+1))):=by
    unfold Y0;rw[lV _ Ms,lV _ Ms,fX.o,gn.o,←gK (gG (gS b) i) i (jS b i)];exact TI.o
   clear xx TI Yf o0 o1 o2 o3 ng na mZ mY;go_roundw
   case rel=>exact⟨i+1,by omega,by omega,by go_num,HRn⟩
   simp[intOf];omega
  have hd:((i:Int)==1)=false:=zb (by omega);have HFR:=zh (oz Hb.o Ms ta);have fX:Y0 (bN b i=((2*(sq-sp+(sr-sq)):Int):Rat)-((sq-sp:Int):Rat)/bN b (i-1)*((sq-sp:Int):Rat)):=by unfold Y0;rw[←HK.o,←HN.o];exact Sk b (by omega)
  have gn:Y0 (gS b i=jS b i-((sq-sp:Int):Rat)/bN b (i-1)*gS b (i-1)):=by unfold Y0;rw[←HK.o];exact Ue b (by omega)
  have HDz:=zh (mF Hb.o (i:=i-1) (by omega) (by omega));have Mf:=zh (aS (M:=41) (iV Hb.o (i-1) (by omega) (by omega)) (by omega));have HRf:=zh (aS (M:=6200) (np Hb.o (i-1) (by omega) (by omega)) (by omega));have HDd:=zh (uG Hb.o (i:=i) Ms ta);rw[HK.o,HN.o] at HDd;go_wp2_with fail;have tM:=zh (pj.o.putR (i:=i) (by omega) Kb.o);generalize ((((w8.setCell ⟨gr,i*4,none⟩ (.bool FW)).setCell ⟨gr,i*4+1,none⟩ (.slice FY FR FU)).setCell ⟨gr,i*4+2,none⟩ (.bool FV)).setCell ⟨gr,i*4+3,none⟩ (.slice FX FQ FT))=W9 at*
  clear pj Kb o0 o1 o2 o3 ng na mZ mY;obtain⟨kA,kC,ku,k7,k8,kB,kt,ky,a0,a1,a2,a3,qX⟩:=tM.o.dia.read (i:=(i-1)) (by omega);have rC:=zh (qX _ ((vz _ _ (by omega)).trans (qw _ (by omega) (by omega))));have uF:=YL a0;have uE:=YL a1;have uD:=YL a2;have uC:=YL a3;clear a0 a1 a2 a3 qX;have bo:=zh tM.o.st.bel;refine af 9 (fun jx=>if jx=1 then some (gE (((sq-sp:Int):Rat))) else if jx=7 then some (gE (((sq-sp:Int):Rat)/bN b (i-1))) else if jx=8 then some (gA W9.heap.size) else none) (by kernel_rfl) (by kernel_rfl) ?_
  simp only[aO,aR,aP,aQ];refine zw 1 ?_;simp only[aO,aR,aP,aQ]
  repeat (go_big_quiet_step (fail))
  refine YE ?_;refine ae rfl rfl ?_ ?_
  ·intro w1 ak hk;have hb:=(bo.o).trans (ak.mono (bo.o).size);have hC:=MakesE.g (fU (sq-sp) w1 (by omega) (by omega));exact zc hC
  rintro _ ⟨qwB,qwD,qwx,qwz,qwA,qwC,qww,qwy,rfl⟩;simp only[Act.put,aw,av,au];refine zw 5 ?_;simp only[aO,aR,aP,aQ]
  repeat (go_big_quiet_step (fail))
  refine YE ?_;refine ae rfl rfl ?_ ?_
  ·intro w1 ak hk;have hb:=(bo.o).trans (ak.mono (bo.o).size);have vq8:ExactAt w1 (.agg (zD qwB qwD qwx qwz qwA qwC qww qwy)) (((sq-sp:Int):Rat)):=hk 133 zk;have hC:=MakesE.g (JQ _ _ _ _ 1 41 w1 vq8 (rC.o.grow ak) (bL (by rw[Nat.pow_one];omega) (yA _)) Mf.o HDz.o (by decide));exact zc hC
  rintro _ ⟨F6,F8,Fz,F3,F4,F7,Fy,F0,rfl⟩;simp only[Act.put,aw,av,au];refine aX rfl rfl (fun w1 ak _=>Ie ak.size (by go_simp)) ?_;rintro _ ⟨xt,rfl⟩;simp only[Act.put,aw,av,au];refine Zc ?_;intro w8 aT hF;have qkQ:ExactAt w8 (.agg (zD F6 F8 Fz F3 F4 F7 Fy F0)) (((sq-sp:Int):Rat)/bN b (i-1)):=hF 139;have Df:zm W9.heap.size (.pointer (some ⟨xt,0,none⟩)) w8:=hF 13;have Yd:=zh qkQ;have xx:=zh (tM.o.grow aT)
  obtain⟨_,e13,b13,Tw⟩:=Df;injection e13 with e13;injection e13 with e13;injection e13 with e13 _ _;subst e13;have HAl:=zh (tM.o.all_lt b13);have q0:=Tw.cell 0;have q1:=Tw.cell 1;have q2:=Tw.cell 2;have q3:=Tw.cell 3;have f0:=Tw.frozen 0;have f1:=Tw.frozen 1;have f2:=Tw.frozen 2;have f3:=Tw.frozen 3;simp only[aB,aD,aA] at q0 q1 q2 q3;have qkm:=zh Tw;clear hF qkQ aT tM bo b13 Tw uF uE uD uC rC;go_wp2_with fail
  have TI:=zh (xx.o.farB qkm.o HAl.o (.bool F6) (.slice F8 Fz F3) (.bool F4) (.slice F7 Fy F0));have mJ:=zh (ExBox.put qkm.o rfl Yd.o);generalize (((w8.setCell ⟨xt,0,none⟩ (.bool F6)).setCell ⟨xt,1,none⟩ (.slice F8 Fz F3)).setCell ⟨xt,2,none⟩ (.bool F4)).setCell ⟨xt,3,none⟩ (.slice F7 Fy F0)=LQ at*;clear xx qkm Yd q0 q1 q2 q3 f0 f1 f2 f3;obtain⟨kA,kC,ku,k7,k8,kB,kt,ky,a0,a1,a2,a3,qX⟩:=TI.o.dia.read (i:=i) (by omega)
  have rC:=zh (qX _ (gJ _ _ _));have uF:=YL a0;have uE:=YL a1;have uD:=YL a2;have uC:=YL a3;clear a0 a1 a2 a3 qX;obtain⟨pL,pM,pJ,pK,oM,oN,oK,oL,XF,De⟩:=mJ.o;obtain⟨c0,c1,c2,c3⟩:=XF.c4;have Em:=zh De;have Kl:=YL c0;have EK:=YL c1;have Kk:=YL c2;have B0:=YL c3;clear c0 c1 c2 c3 De XF;have bo:=zh TI.o.st.bel;refine af 12 (fun jx=>if jx=8 then some (gE (((sq-sp:Int):Rat))) else if jx=9 then some (gE (((sq-sp:Int):Rat)/bN b (i-1)*((sq-sp:Int):Rat))) else if jx=10 then some (gE (((2*(sq-sp+(sr-sq)):Int):Rat)-((sq-sp:Int):Rat)/bN b (i-1)*((sq-sp:Int):Rat))) else none) (by kernel_rfl) (by kernel_rfl) ?_
  simp only[aO,aR,aP,aQ];refine zw 8 ?_;simp only[aO,aR,aP,aQ]
  repeat (go_big_quiet_step (fail))
  refine YE ?_;refine ae rfl rfl ?_ ?_
  ·intro w1 ak hk;have hb:=(bo.o).trans (ak.mono (bo.o).size);have hC:=MakesE.g (fU (sq-sp) w1 (by omega) (by omega));exact zc hC
  rintro _ ⟨Fv,Fx,Fq,Ft,Fu,Fw,Fp,Fs,rfl⟩;simp only[Act.put,aw,av,au];refine ae rfl rfl ?_ ?_
  ·intro w1 ak hk;have hb:=(bo.o).trans (ak.mono (bo.o).size);have qjL:ExactAt w1 (.agg (zD Fv Fx Fq Ft Fu Fw Fp Fs)) (((sq-sp:Int):Rat)):=hk 148 zk;have hC:=MakesE.g (ry _ _ _ _ 42 1 w1 (Em.o.grow ak) qjL (fh (K:=1) (M:=41) HDz.o (bL (by rw[Nat.pow_one];omega) (yA _)) Mf.o) (bL (by rw[Nat.pow_one];omega) (yA _)) (by decide));exact zc hC
  rintro _ ⟨qwd,qwf,qq9,qwb,qwc,qwe,qq8,qwa,rfl⟩;simp only[Act.put,aw,av,au];refine ae rfl rfl ?_ ?_
  ·intro w1 ak hk;have hb:=(bo.o).trans (ak.mono (bo.o).size);have vq4:ExactAt w1 (.agg (zD qwd qwf qq9 qwb qwc qwe qq8 qwa)) (((sq-sp:Int):Rat)/bN b (i-1)*((sq-sp:Int):Rat)):=hk 149 zk;have hC:=MakesE.g (jg _ _ _ _ 1 43 w1 (rC.o.grow ak) vq4 HDd.o (iu (K:=42) (M:=1) (fh (K:=1) (M:=41) HDz.o (bL (by rw[Nat.pow_one];omega) (yA _)) Mf.o) (bL (by rw[Nat.pow_one];omega) (yA _))) (by decide));exact zc hC
  rintro _ ⟨vu,vw,vm,vp,vt,vv,vk,vn,rfl⟩;simp only[Act.put,aw,av,au];refine zw 1 ?_;simp only[aO,aR,aP,aQ]
  repeat (go_big_quiet_step (fail))
  refine YE ?_;refine Zc ?_;intro w8 aT hF;have Ve:ExactAt w8 (.agg (zD vu vw vm vp vt vv vk vn)) (((2*(sq-sp+(sr-sq)):Int):Rat)-((sq-sp:Int):Rat)/bN b (i-1)*((sq-sp:Int):Rat)):=hF 150;have Yb:=zh Ve;have JX:=zh (TI.o.grow aT);have HBy:=zh (mJ.o.grow aT);obtain⟨_,_,_,_,_,_,_,_,o0,o1,o2,o3,-⟩:=JX.o.dia.read (i:=i) (by omega);have ng:=JX.o.dia.frozen (i*4);have na:=JX.o.dia.frozen (i*4+1);have mZ:=JX.o.dia.frozen (i*4+2)
  have mY:=JX.o.dia.frozen (i*4+3);clear hF Ve aT TI mJ bo uF uE uD uC rC Kl EK Kk B0 Em;go_wp2_with fail;have XR:=zh (JX.o.putD (i:=i) (by omega) Yb.o);obtain⟨csd,hkd⟩:=JX.o.dia.blk;have dw:=zh (HBy.o.far hkd (Nat.ne_of_gt (HAl.o gd (by simp))) (i*4) (.bool vu) (.slice vw vm vp) (.bool vt) (.slice vv vk vn));generalize ((((w8.setCell ⟨gd,i*4,none⟩ (.bool vu)).setCell ⟨gd,i*4+1,none⟩ (.slice vw vm vp)).setCell ⟨gd,i*4+2,none⟩ (.bool vt)).setCell ⟨gd,i*4+3,none⟩ (.slice vv vk vn))=W11 at*
  clear JX HBy hkd Yb o0 o1 o2 o3 ng na mZ mY;obtain⟨kA,kC,ku,k7,k8,kB,kt,ky,a0,a1,a2,a3,qX⟩:=XR.o.rgt.read (i:=i) (by omega);have rC:=zh (qX _ (gJ _ _ _));have uF:=YL a0;have uE:=YL a1;have uD:=YL a2;have uC:=YL a3;clear a0 a1 a2 a3 qX;obtain⟨pL,pM,pJ,pK,oM,oN,oK,oL,XF,De⟩:=dw.o;obtain⟨c0,c1,c2,c3⟩:=XF.c4;have Em:=zh De;have Kl:=YL c0;have EK:=YL c1;have Kk:=YL c2;have B0:=YL c3;clear c0 c1 c2 c3 De XF
  obtain⟨MR,MU,Mk,MP,MQ,MS,Mj,MO,d0,d1,d2,d3,R5⟩:=XR.o.rgt.read (i:=(i-1)) (by omega);have Ti:=zh (R5 _ ((vz _ _ (by omega)).trans (qw _ (by omega) (by omega))));have MJ:=YL d0;have MI:=YL d1;have MH:=YL d2;have MG:=YL d3;clear d0 d1 d2 d3 R5;have bo:=zh XR.o.st.bel;refine af 15 (fun jx=>if jx=12 then some (gE (((sq-sp:Int):Rat)/bN b (i-1)*gS b (i-1))) else if jx=13 then some (gE (jS b i-((sq-sp:Int):Rat)/bN b (i-1)*gS b (i-1))) else none) (by kernel_rfl) (by kernel_rfl) ?_
  simp only[aO,aR,aP,aQ];refine zw 12 ?_;simp only[aO,aR,aP,aQ]
  repeat (go_big_quiet_step (fail))
  refine YE ?_;refine ae rfl rfl ?_ ?_
  ·intro w1 ak hk;have hb:=(bo.o).trans (ak.mono (bo.o).size);have hC:=MakesE.g (ry _ _ _ _ 42 6200 w1 (Em.o.grow ak) (Ti.o.grow ak) (fh (K:=1) (M:=41) HDz.o (bL (by rw[Nat.pow_one];omega) (yA _)) Mf.o) HRf.o (by decide));exact zc hC
  rintro _ ⟨qqP,qqR,qqL,qqN,qqO,qqQ,qqK,qqM,rfl⟩;simp only[Act.put,aw,av,au];refine ae rfl rfl ?_ ?_
  ·intro w1 ak hk;have hb:=(bo.o).trans (ak.mono (bo.o).size);have vq0:ExactAt w1 (.agg (zD qqP qqR qqL qqN qqO qqQ qqK qqM)) (((sq-sp:Int):Rat)/bN b (i-1)*gS b (i-1)):=hk 164 zk;have hC:=MakesE.g (jg _ _ _ _ 493 6242 w1 (rC.o.grow ak) vq0 HFR.o (iu (K:=42) (M:=6200) (fh (K:=1) (M:=41) HDz.o (bL (by rw[Nat.pow_one];omega) (yA _)) Mf.o) HRf.o) (by decide));exact zc hC
  rintro _ ⟨Pd,Pf,OX,OZ,Pb,Pe,OW,OY,rfl⟩;simp only[Act.put,aw,av,au];refine zw 1 ?_;simp only[aO,aR,aP,aQ]
  repeat (go_big_quiet_step (fail))
  refine YE ?_;refine Zc ?_;intro w8 aT hF;have qkP:ExactAt w8 (.agg (zD Pd Pf OX OZ Pb Pe OW OY)) (jS b i-((sq-sp:Int):Rat)/bN b (i-1)*gS b (i-1)):=hF 165;have XZ:=zh qkP;have wI:=zh (XR.o.grow aT);obtain⟨_,_,_,_,_,_,_,_,o0,o1,o2,o3,-⟩:=wI.o.rgt.read (i:=i) (by omega);have ng:=wI.o.rgt.frozen (i*4);have na:=wI.o.rgt.frozen (i*4+1);have mZ:=wI.o.rgt.frozen (i*4+2);have mY:=wI.o.rgt.frozen (i*4+3);clear hF qkP aT XR dw bo uF uE uD uC rC Kl EK Kk B0 Em MJ MI MH MG Ti
  go_wp2_with fail;have qk4:=zh (wI.o.putR (i:=i) (by omega) XZ.o);generalize ((((w8.setCell ⟨gr,i*4,none⟩ (.bool Pd)).setCell ⟨gr,i*4+1,none⟩ (.slice Pf OX OZ)).setCell ⟨gr,i*4+2,none⟩ (.bool Pb)).setCell ⟨gr,i*4+3,none⟩ (.slice Pe OW OY))=W12 at*;have HRn:Y0 (MomRows w W12 b (zC b (some ⟨bs,os,none⟩) cs Al cl) g5 g6 go gd gr (eu (eu (fun _=>none) 0 (bG b)) (b.sup.length-1) (bG (ao b))) (gG (bN b) (i+1)) (gG (gS b) (i+1))):=by
   unfold Y0;rw[lV _ Ms,lV _ Ms,fX.o,gn.o,←gK (gG (gS b) i) i (jS b i),←gK (gG (bN b) i) i ((2*(sq-sp+(sr-sq)):Int):Rat)];exact qk4.o
  clear wI qk4 XZ o0 o1 o2 o3 ng na mZ mY;go_roundw
  case rel=>exact⟨i+1,by omega,by omega,by go_num,HRn⟩
  simp[intOf];omega
 obtain T8:i=b.sup.length-1:=by omega
 subst T8;have HO:Y0 (MomRows w wr b (zC b (some ⟨bs,os,none⟩) cs Al cl) g5 g6 go gd gr (pg b (b.sup.length-2)) (gG (bN b) (b.sup.length-1)) (gG (gS b) (b.sup.length-1))):=HR.o.weakO fun j q hj h=>DX b (by omega) hj h;have kz:decide (((b.sup.length-1:Nat):Int)<(b.sup.length:Int)-1)=false:=yC (by omega);have kz2:((b.sup.length-1:Nat):Int)=(b.sup.length:Int)-1:=by omega
 rw[kz2] at kz⊢;have kz3:(b.sup.length:Int)-2=((b.sup.length-2:Nat):Int):=by omega
 have KZ:=zh kz3;clear HR ta k0 k01 kz2 kz3;go_wp2_with fail;rw[KZ.o];clear KZ kz;go_loopw [14] (fun ix wr=>∃i:Nat,i+2≤b.sup.length∧ix=.int .i64 i∧Y0 (MomRows w wr b (zC b (some ⟨bs,os,none⟩) cs Al cl) g5 g6 go gd gr (pg b i) (gG (bN b) (b.sup.length-1)) (gG (gS b) (b.sup.length-1)))) (fun ix _=>(intOf ix).toNat)
 case atStart=>exact⟨b.sup.length-2,by omega,rfl,HO⟩
 clear HO;obtain⟨i,him,rfl,HR⟩:=hrel;have k01:(i:Int)≤10:=by omega
 rcases Nat.eq_zero_or_pos i with h0|h0
 ·subst h0;have HX:=zh (HR.o.o.weak fun j q _ h=>LK b h);have Yl:=zh HR.o.st.bel;clear HR;go_wp2_with fail;refine YF (results_tmp2 rfl _ _ _) (by rfl) ?_;exact⟨Yl.o,.slice (some ⟨go,0,none⟩) b.sup.length b.sup.length,by rw[HT.o];rfl,go,by rw[qL],by rw[qL];exact HX.o⟩
 have k0:(1:Int)≤(i:Int):=by omega
 have k02:(0:Int)<(i:Int):=by omega
 obtain⟨y0,y1,y2,y3,y4⟩:=HR.o.st.bm.c5;have z1:=(HR.o.st.bel.cell (p:=⟨bs,os+i,none⟩) gL).trans (mI.o i (by omega));have z2:=(HR.o.st.bel.cell (p:=⟨bs,os+(i+1),none⟩) gL).trans (mI.o (i+1) (by omega));have t1:=Hb.o.sup i (by omega);have t2:=Hb.o.inc i (by omega);have t3:=Hb.o.sup (i+1) (by omega);have t4:=Hb.o.len;have HN:Y0 (bk b (i+1)=ai b (i+1)-ai b i):=rfl;have HMs:=zh (Q6 b h0 (show i+1<b.sup.length by omega))
 rw[HN.o] at HMs;have HDz:=zh (mF Hb.o (i:=i) h0 (by omega));have Mf:=zh (aS (M:=41) (iV Hb.o i h0 (by omega)) (by omega));have HRf:=zh (aS (M:=6200) (np Hb.o i h0 (by omega)) (by omega));have HMf:=zh (jU Hb.o (i:=i+1) (by omega));generalize ai b i=sq at*;generalize ai b (i+1)=sr at*;obtain⟨t11,t12⟩:=t1;obtain⟨t31,t32⟩:=t3;obtain⟨t41,t42⟩:=t4;have i3:((i:Int)+1).toNat=i+1:=by omega
 have i6:(i:Int)+1<(b.sup.length:Int):=by omega
 have i7:(i:Int)<(b.sup.length:Int):=by omega
 have i8:(0:Int)≤(i:Int):=by omega
 have i9:(0:Int)≤(i:Int)+1:=by omega
 have v2:IntKind.i64.wrap ((i:Int)+1)=(i:Int)+1:=yF _ (by omega);have v4:IntKind.i64.wrap (sr-sq)=sr-sq:=yF _ (by omega);go_wp2_with fail;go_quiet (fail);go_wp2_with fail;have I0:=zh (HR.o.drew nq);generalize wr.drewN nq=W9 at*;clear HR y0 y1 y2 y3 y4 z1 z2;obtain⟨kA,kC,ku,k7,k8,kB,kt,ky,a0,a1,a2,a3,qX⟩:=I0.o.rgt.read (i:=i) (by omega);have rC:=zh (qX _ (qw _ h0 (by omega)));have uF:=YL a0;have uE:=YL a1
 have uD:=YL a2;have uC:=YL a3;clear a0 a1 a2 a3 qX;obtain⟨pL,pM,pJ,pK,oM,oN,oK,oL,c0,c1,c2,c3,De⟩:=I0.o.o.read (i:=(i+1)) (by omega);have Em:=zh (De _ (SE b (Nat.lt_succ_self i)));have Kl:=YL c0;have EK:=YL c1;have Kk:=YL c2;have B0:=YL c3;clear c0 c1 c2 c3 De;obtain⟨MR,MU,Mk,MP,MQ,MS,Mj,MO,d0,d1,d2,d3,R5⟩:=I0.o.dia.read (i:=i) (by omega);have Ti:=zh (R5 _ (qw _ h0 (by omega)));have MJ:=YL d0;have MI:=YL d1
 have MH:=YL d2;have MG:=YL d3;clear d0 d1 d2 d3 R5;have bo:=zh I0.o.st.bel;refine af 21 (fun jx=>if jx=12 then some (gE (((sr-sq:Int):Rat))) else if jx=13 then some (gE (Zx b (i+1)*((sr-sq:Int):Rat))) else if jx=14 then some (gE (gS b i-Zx b (i+1)*((sr-sq:Int):Rat))) else if jx=19 then some (gE ((gS b i-Zx b (i+1)*((sr-sq:Int):Rat))/bN b i)) else none) (by kernel_rfl) (by kernel_rfl) ?_;simp only[aO,aR,aP,aQ]
 refine zw 12 ?_;simp only[aO,aR,aP,aQ]
 repeat (go_big_quiet_step (fail))
 refine YE ?_;refine ae rfl rfl ?_ ?_
 ·intro w1 ak hk;have hb:=(bo.o).trans (ak.mono (bo.o).size);have hC:=MakesE.g (fU (sr-sq) w1 (by omega) (by omega));exact zc hC
 rintro _ ⟨qqr,qqt,qqn,qqp,qqq,qqs,qqm,qqo,rfl⟩;simp only[Act.put,aw,av,au];refine ae rfl rfl ?_ ?_
 ·intro w1 ak hk;have hb:=(bo.o).trans (ak.mono (bo.o).size);have vqX:ExactAt w1 (.agg (zD qqr qqt qqn qqp qqq qqs qqm qqo)) (((sr-sq:Int):Rat)):=hk 197 zk;have hC:=MakesE.g (ry _ _ _ _ 60000 1 w1 (Em.o.grow ak) vqX HMf.o (bL (by rw[Nat.pow_one];omega) (yA _)) (by decide));exact zc hC
 rintro _ ⟨qqj,qql,qqf,qqh,qqi,qqk,qqe,qqg,rfl⟩;simp only[Act.put,aw,av,au];refine ae rfl rfl ?_ ?_
 ·intro w1 ak hk;have hb:=(bo.o).trans (ak.mono (bo.o).size);have vqW:ExactAt w1 (.agg (zD qqj qql qqf qqh qqi qqk qqe qqg)) (Zx b (i+1)*((sr-sq:Int):Rat)):=hk 198 zk;have hC:=MakesE.g (jg _ _ _ _ 6200 60001 w1 (rC.o.grow ak) vqW HRf.o (iu (K:=60000) (M:=1) HMf.o (bL (by rw[Nat.pow_one];omega) (yA _))) (by decide));exact zc hC
 rintro _ ⟨qqb,qqd,ZX,ZZ,qqa,qqc,ZW,ZY,rfl⟩;simp only[Act.put,aw,av,au];refine zw 4 ?_;simp only[aO,aR,aP,aQ]
 repeat (go_big_quiet_step (fail))
 refine YE ?_;refine ae rfl rfl ?_ ?_
 ·intro w1 ak hk;have hb:=(bo.o).trans (ak.mono (bo.o).size);have qjK:ExactAt w1 (.agg (zD qqb qqd ZX ZZ qqa qqc ZW ZY)) (gS b i-Zx b (i+1)*((sr-sq:Int):Rat)):=hk 199 zk;have hC:=MakesE.g (JQ _ _ _ _ 66202 41 w1 qjK (Ti.o.grow ak) (dY (K:=6200) (M:=60001) HRf.o (iu (K:=60000) (M:=1) HMf.o (bL (by rw[Nat.pow_one];omega) (yA _)))) Mf.o HDz.o (by decide));exact zc hC
 rintro _ ⟨OJ,OM,OE,OH,OI,OL,OD,OG,rfl⟩;simp only[Act.put,aw,av,au];refine zw 1 ?_;simp only[aO,aR,aP,aQ]
 repeat (go_big_quiet_step (fail))
 refine YE ?_;refine Zc ?_;intro w8 aT hF;have qjJ:ExactAt w8 (.agg (zD OJ OM OE OH OI OL OD OG)) ((gS b i-Zx b (i+1)*((sr-sq:Int):Rat))/bN b i):=hF 204;rw[←HMs.o] at qjJ;have XY:=zh qjJ;have xx:=zh (I0.o.grow aT);obtain⟨_,_,_,_,_,_,_,_,o0,o1,o2,o3,-⟩:=xx.o.o.read (i:=i) (by omega);have ng:=xx.o.o.frozen (i*4);have na:=xx.o.o.frozen (i*4+1);have mZ:=xx.o.o.frozen (i*4+2);have mY:=xx.o.o.frozen (i*4+3)
 clear hF qjJ aT I0 bo uF uE uD uC rC Kl EK Kk B0 Em MJ MI MH MG Ti;go_wp2_with fail;have TI:=zh (xx.o.putO (i:=i) (by omega) XY.o);rw[Ix b h0] at TI;generalize ((((w8.setCell ⟨go,i*4,none⟩ (.bool OJ)).setCell ⟨go,i*4+1,none⟩ (.slice OM OE OH)).setCell ⟨go,i*4+2,none⟩ (.bool OI)).setCell ⟨go,i*4+3,none⟩ (.slice OL OD OG))=LQ at*;clear xx XY o0 o1 o2 o3 ng na mZ mY;go_roundw
 case rel=>exact⟨i-1,by omega,by congr 1;omega,TI⟩
 simp[intOf];omega
