/- Lemmas. -/
import Derived.Deep.RegionHeld3
import Derived.Test.YtfhmbechennkbaaGreatDoorC4
namespace Go.Proofs.YtfhmbechennkbaaGreatDoor
set_option maxRecDepth 100000
set_option maxHeartbeats 40000000
open Go.RowKit Go.Shelf
theorem Ql (v:Value) (b:BeamT) (w:World) (hv:BeamAt w w.heap.size v b) (hb:BeamOk b):Calls Tryz.prog 154 #[v] w (Fs b w):=by
 obtain⟨As,cs,Al,cl,rfl,hS,hL⟩:=hv
 obtain⟨Bj,hm2⟩:=hb.sup1
 obtain⟨_,_,e,_,_,uD⟩:=hS.open_
 injection e with e1 _ e2
 subst e1 e2
 obtain⟨bs,os,rfl,ip,D6⟩:=uD 0 Bj
 have HV:Y0 (BeamAt w w.heap.size (.agg (zC b (some ⟨bs,os,none⟩) cs Al cl)) b):=⟨_,_,Al,cl,rfl,hS,hL⟩
 have lq:Y0 (∀ j,j<b.sup.length→w.cell? ⟨bs,os+j,none⟩=some (.int .i64 (ak b j))):=fun j hj=>by
  have h:=D6 j hj
  unfold ak
  rw[yN,yM hj]
  exact h
 have Hb:=zh hb
 have HbT:=zh (lT hb)
 have HD:=zh (Blk.new w 122 (zC b (some ⟨bs,os,none⟩) cs Al cl))
 have HB:=zh ((yB _ w).alloc (yA _) (.cells (zC b (some ⟨bs,os,none⟩) cs Al cl) 122))
 clear hS hL hb uD D6
 go_enter Tryz.func154,Tryz.ntmps154
 go_wp2_with fail
 generalize w.alloc (.cells (zC b (some ⟨bs,os,none⟩) cs Al cl) 122)=W1 at *
 obtain⟨y0,y1,y2,y3,y4⟩:=HD.o.c5
 go_wp2_with fail
 have u0:=YL y0
 have u1:=YL y1
 have u2:=YL y2
 have u3:=YL y3
 have u4:=YL y4
 clear y0 y1 y2 y3 y4
 refine jV 7 (fun jx=>if jx=1 then some (gE (bA b)) else if jx=3 then some (gB (au b)) else if jx=4 then some (gE (bA (au b))) else if jx=5 then some (gA W1.heap.size) else if jx=6 then some (gA W1.heap.size) else none) [5,6] (by kernel_rfl) (by kernel_rfl) (by kernel_rfl) (FY rfl rfl) ?_
 simp only[aU,aT,aW,aX]
 refine ae 1 (by kernel_rfl) (by rfl) (by decide) ?_
 simp only[aU,aT,aW,aX]
 repeat (go_big_quiet_step (fail))
 refine YH ?_
 refine af rfl rfl ?_ ?_
 ·intro w1 ao hk
  have hb:=(HB.o).trans (ao.mono (HB.o).size)
  have hC:=MakesE.g (XJ _ b w1 ((HV.o.below hb (yA _)).mono hb.size) Hb.o)
  exact⟨187,#[.agg (zC b (some ⟨bs,os,none⟩) cs Al cl)],by go_simp,hC⟩
 rintro _ ⟨CZ,Db,CV,CX,CY,Da,CU,CW,rfl⟩
 simp only[Act.put,aJ,aI,aH]
 refine ae 1 (by kernel_rfl) (by rfl) (by decide) ?_
 simp only[aU,aT,aW,aX]
 repeat (go_big_quiet_step (fail))
 refine YH ?_
 refine af rfl rfl ?_ ?_
 ·intro w1 ao hk
  have hb:=(HB.o).trans (ao.mono (HB.o).size)
  have hC:=TurnedPost.g (BO _ b w1 ((HV.o.below hb (yA _)).mono hb.size) Hb.o)
  exact⟨162,#[.agg (zC b (some ⟨bs,os,none⟩) cs Al cl)],by go_simp,hC⟩
 rintro _ ⟨Rp,Rn,Rq,Ro,rfl⟩
 simp only[Act.put,aJ,aI,aH]
 refine af rfl rfl ?_ ?_
 ·intro w1 ao hk
  have hb:=(HB.o).trans (ao.mono (HB.o).size)
  have h22:BeamAt w1 w1.heap.size (.agg (zC (au b) Rp Rn Rq Ro)) (au b):=hk 22 (by decide)
  have hC:=MakesE.g (XJ _ (au b) w1 h22 HbT.o)
  exact⟨187,#[.agg (zC (au b) Rp Rn Rq Ro)],by go_simp,hC⟩
 rintro _ ⟨Sn,Sq,Sj,Sl,Sm,Sp,Si,Sk,rfl⟩
 simp only[Act.put,aJ,aI,aH]
 refine br rfl rfl (fun w1 ao _=>Mg ao.size (by go_simp)) ?_
 rintro _ ⟨g5,rfl⟩
 simp only[Act.put,aJ,aI,aH]
 refine br rfl rfl (fun w1 ao _=>Mg ao.size (by go_simp)) ?_
 rintro _ ⟨g6,rfl⟩
 simp only[Act.put,aJ,aI,aH]
 refine Zc ?_
 intro w8 aM hF hA
 have QM:ExactAt w8 (.agg (zD CZ Db CV CX CY Da CU CW)) (bA b):=hF 20
 have h23:ExactAt w8 (.agg (zD Sn Sq Sj Sl Sm Sp Si Sk)) (bA (au b)):=hF 23
 have h5:Ed W1.heap.size (.pointer (some ⟨g5,0,none⟩)) w8:=hF 5
 have h6:Ed W1.heap.size (.pointer (some ⟨g6,0,none⟩)) w8:=hF 6
 have PO:g6≠g5:=fun e=>(hA 5 (by simp) g5 rfl).2 6 (by simp) (by decide) (by rw[e];rfl)
 have HFx:=zh QM
 have HFy:=zh h23
 have D8:=HD.o.below aM HD.o.lt
 have B8:=HB.o.trans (aM.mono HB.o.size)
 have b5:=h5
 have b6:=h6
 obtain⟨_,e5,-,b5⟩:=b5
 obtain⟨_,e6,-,b6⟩:=b6
 injection e5 with e5
 injection e5 with e5
 injection e5 with e5 _ _
 injection e6 with e6
 injection e6 with e6
 injection e6 with e6 _ _
 subst e5 e6
 have c50:=b5.cell 0
 have f50:=b5.frozen 0
 have c51:=b5.cell 1
 have f51:=b5.frozen 1
 have c52:=b5.cell 2
 have f52:=b5.frozen 2
 have c53:=b5.cell 3
 have f53:=b5.frozen 3
 have c60:=b6.cell 0
 have f60:=b6.frozen 0
 have c61:=b6.cell 1
 have f61:=b6.frozen 1
 have c62:=b6.cell 2
 have f62:=b6.frozen 2
 have c63:=b6.cell 3
 have f63:=b6.frozen 3
 simp only[aP,aQ,aO] at c50 c51 c52 c53 c60 c61 c62 c63
 have H5:=zh h5
 have H6:=zh h6
 have H56:=zh PO
 have bj:=zh D8
 have dP:=zh B8
 have QO:=zh HD.o.lt
 have vqQ:¬ (g6=g5):=PO
 clear hF hA u0 u1 u2 u3 u4 QM h23 h5 h6 PO aM D8 B8 b5 b6 HD HB
 by_cases hm:b.sup.length=1
 ·have hd:((b.sup.length:Int)==1)=true:=beq_iff_eq.2 (by omega)
  have HT:Y0 (cJ b=(jd (bA b-bA (au b)).num==0)):=by unfold Y0 cJ;rw[if_pos hm,O7]
  have HL:Y0 (tr b=[bA b]):=by unfold Y0 tr;rw[hm];rfl
  clear hm
  go_wp2_with fail
  have hM:=MomSt.start bj.o dP.o QO.o H5.o H6.o H56.o HFx.o HFy.o
  generalize ((((((((w8.setCell ⟨g5,0,none⟩ (.bool CZ)).setCell ⟨g5,1,none⟩ (.slice Db CV CX)).setCell ⟨g5,2,none⟩ (.bool CY)).setCell ⟨g5,3,none⟩ (.slice Da CU CW)).setCell ⟨g6,0,none⟩ (.bool Sn)).setCell ⟨g6,1,none⟩ (.slice Sq Sj Sl)).setCell ⟨g6,2,none⟩ (.bool Sm)).setCell ⟨g6,3,none⟩ (.slice Sp Si Sk))=W9 at *
  obtain⟨gM,gQ,gH,gK,gL,gP,gG,gJ,hB,hE⟩:=hM.fst
  obtain⟨y0,y1,y2,y3⟩:=hB.c4
  have u0:=YL y0
  have u1:=YL y1
  have u2:=YL y2
  have u3:=YL y3
  clear y0 y1 y2 y3
  obtain⟨Co,Cq,Cd,Cm,Cn,Cp,Cc,Cl,nC,ET⟩:=hM.lst
  obtain⟨xy0,xy1,xy2,xy3⟩:=nC.c4
  have xu0:=YL xy0
  have xu1:=YL xy1
  have xu2:=YL xy2
  have xu3:=YL xy3
  clear xy0 xy1 xy2 xy3
  have lJ:=zh hM.bel
  have HE:=zh hE
  have lP:=zh ET
  clear hM hE ET hB nC c50 c51 c52 c53 c60 c61 c62 c63 f50 f51 f52 f53 f60 f61 f62 f63 H5 H6 HFx HFy bj dP
  refine ag 9 (fun jx=>if jx=1 then some (gX (bA b)) else if jx=4 then some (gE (bA b-bA (au b))) else if jx=6 then some (gV (.int .i64 (jd (bA b-bA (au b)).num))) else none) (by kernel_rfl) (by kernel_rfl) ?_
  simp only[aU,aT,aW,aX]
  refine ae 1 (by kernel_rfl) (by rfl) (by decide) ?_
  simp only[aU,aT,aW,aX]
  repeat (go_big_quiet_step (fail))
  refine YH ?_
  refine br rfl rfl (fun w1 ao _=>qxV (HE.o.grow ao) (by go_simp)) ?_
  rintro _ ⟨g27,rfl⟩
  simp only[Act.put,aJ,aI,aH]
  refine ae 2 (by kernel_rfl) (by rfl) (by decide) ?_
  simp only[aU,aT,aW,aX]
  repeat (go_big_quiet_step (fail))
  refine YH ?_
  refine af rfl rfl ?_ ?_
  ·intro w1 ao hk
   have hb:=(lJ.o).trans (ao.mono (lJ.o).size)
   have hC:=MakesE.g (hH _ _ _ _ 247 247 w1 (HE.o.grow ao) (lP.o.grow ao) (dM Hb.o) (dM HbT.o) (by decide))
   exact⟨159,#[.agg (zD gM gQ gH gK gL gP gG gJ),.agg (zD Co Cq Cd Cm Cn Cp Cc Cl)],by go_simp,hC⟩
  rintro _ ⟨Sf,Sg,Sd,Se,qzY,qzZ,qzW,qzX,rfl⟩
  simp only[Act.put,aJ,aI,aH]
  refine Re (v:=.agg #[.bool Sf,.slice Sg Sd Se]) rfl rfl (fun w1=>by kernel_rfl) ?_
  simp only[Act.put,aJ,aI,aH]
  refine af rfl rfl ?_ ?_
  ·intro w1 ao hk
   have hb:=(lJ.o).trans (ao.mono (lJ.o).size)
   have h30:ExactAt w1 (.agg (zD Sf Sg Sd Se qzY qzZ qzW qzX)) (bA b-bA (au b)):=hk 31 (by decide) 30 (by decide)
   obtain⟨_,_,_,_,_,_,_,_,e30,qkX,-⟩:=h30.form
   have hC:=qzI e30 qkX
   exact⟨188,#[.agg #[.bool Sf,.slice Sg Sd Se]],by go_simp,hC⟩
  rintro _ rfl
  simp only[Act.put,aJ,aI,aH]
  refine ae 2 (by kernel_rfl) (by rfl) (by decide) ?_
  simp only[aU,aT,aW,aX]
  repeat (go_big_quiet_step (fail))
  refine YH ?_
  refine Zc ?_
  intro w8 aM hF
  have h27:ExsAt w8 (.slice (some ⟨g27,0,none⟩) 1 1) [bA b]:=hF 27
  have F5:=zh (lJ.o.trans (aM.mono lJ.o.size))
  have H27:=zh h27
  clear hF h27 aM u0 u1 u2 u3 xu0 xu1 xu2 xu3 HE lP lJ
  go_wp2_with fail
  refine YI (results_tmp2 rfl _ _ _) (by rfl) ?_
  exact⟨F5.o,_,by rw[HT.o];rfl,by rw[HL.o];exact H27.o⟩
 have hd:((b.sup.length:Int)==1)=false:=beq_eq_false_iff_ne.2 (by omega)
 have HT:Y0 (cJ b=true):=by unfold Y0 cJ;rw[if_neg hm]
 have qkI:2≤b.sup.length:=by omega
 obtain⟨iE,LP,qM,qL,tD⟩:=info_parts qK
 have bV:iE.bytes*b.sup.length≤281474976710656:=by rw[tD];omega
 clear hm
 have hM:=MomSt.start bj.o dP.o QO.o H5.o H6.o H56.o HFx.o HFy.o
 have HM:=zh hM
 clear hM
 go_wp2_with (at_make;refine wpList_make_full _ rfl _ _ 155 rfl _ 195 iE (.agg (zD false none 0 0 false none 0 0)) 4 Tryz.underlying155 LP qM qL .i64 .i64 _ _ b.sup.length rfl rfl rfl rfl bV (by unfold maxLen;omega) (Nat.le_refl _) ?_;intro Kq Bh pM)
 have qe:=zh (ExRow.made Bh)
 have MD:Y0 (MomSt w Kq b (zC b (some ⟨bs,os,none⟩) cs Al cl) g5 g6):=HM.o.grow ((yB _ _).grown pM (yA _) (fun k hk=>by cases hk))
 have Cg:Y0 (g5<w8.heap.size∧g6<w8.heap.size∧w.heap.size<w8.heap.size):=by
  obtain⟨_,e5,_,b5⟩:=H5.o
  obtain⟨_,e6,_,b6⟩:=H6.o
  injection e5 with e5
  injection e5 with e5
  injection e5 with e5 _ _
  injection e6 with e6
  injection e6 with e6
  injection e6 with e6 _ _
  subst e5 e6
  exact⟨b5.lt,b6.lt,bj.o.lt⟩
 have qvd:(((((((((w8.setCell ⟨g5,0,none⟩ (.bool CZ)).setCell ⟨g5,1,none⟩ (.slice Db CV CX)).setCell ⟨g5,2,none⟩ (.bool CY)).setCell ⟨g5,3,none⟩ (.slice Da CU CW)).setCell ⟨g6,0,none⟩ (.bool Sn)).setCell ⟨g6,1,none⟩ (.slice Sq Sj Sl)).setCell ⟨g6,2,none⟩ (.bool Sm)).setCell ⟨g6,3,none⟩ (.slice Sp Si Sk))).heap.size=w8.heap.size:=by simp[World.setCell]
 rw[qvd] at qe
 obtain⟨go,qvi⟩:∃ go,w8.heap.size=go:=⟨_,rfl⟩
 rw[qvi] at qe Cg
 simp only[qvi]
 have HG1:Y0 (g5<go):=Cg.o.1
 have HG2:Y0 (g6<go):=Cg.o.2.1
 have HG3:Y0 (w.heap.size<go):=Cg.o.2.2
 clear qvi qvd Bh pM bV LP qM qL tD Cg HM H5 H6 HFx HFy bj dP c50 c51 c52 c53 c60 c61 c62 c63 f50 f51 f52 f53 f60 f61 f62 f63
 obtain⟨gM,gQ,gH,gK,gL,gP,gG,gJ,hB,hE⟩:=MD.o.fst
 obtain⟨Co,Cq,Cd,Cm,Cn,Cp,Cc,Cl,nC,ET⟩:=MD.o.lst
 have p0:=hB.cell 0
 have p1:=hB.cell 1
 have p2:=hB.cell 2
 have p3:=hB.cell 3
 have x0:=nC.cell 0
 have x1:=nC.cell 1
 have x2:=nC.cell 2
 have x3:=nC.cell 3
 obtain⟨_,_,_,_,_,_,_,_,o0,o1,o2,o3,-⟩:=qe.o.read (i:=0) (by omega)
 obtain⟨_,_,_,_,_,_,_,_,l0,l1,l2,l3,-⟩:=qe.o.read (i:=b.sup.length-1) (by omega)
 simp only[aP,aQ,aO,Nat.zero_mul,Nat.zero_add] at p0 p1 p2 p3 x0 x1 x2 x3 o0 o1 o2 o3
 have fz:=qe.o.frozen
 have lF:=fz 0
 have lE:=fz 1
 have lD:=fz 2
 have lC:=fz 3
 have fl0:=fz ((b.sup.length-1)*4)
 have fl1:=fz ((b.sup.length-1)*4+1)
 have fl2:=fz ((b.sup.length-1)*4+2)
 have fl3:=fz ((b.sup.length-1)*4+3)
 have HE:=zh hE
 have lP:=zh ET
 have j0:(0:Int)≤(b.sup.length:Int)-1:=by omega
 have j1:(b.sup.length:Int)-1<(b.sup.length:Int):=by omega
 have j2:((b.sup.length:Int)-1).toNat=b.sup.length-1:=by omega
 have j3:(0:Int)<(b.sup.length:Int):=by omega
 have j4:0<b.sup.length:=by omega
 have j5:IntKind.i64.wrap ((b.sup.length:Int)-1)=(b.sup.length:Int)-1:=yF _ (by omega)
 have j6:(1:Int)≤(b.sup.length:Int):=by omega
 have n5:g5≠go:=Nat.ne_of_lt HG1.o
 have n6:g6≠go:=Nat.ne_of_lt HG2.o
 have n5':go≠g5:=Ne.symm n5
 have n6':go≠g6:=Ne.symm n6
 clear hB nC hE ET fz
 go_region_held3 (fun w'=>w'.cell? ⟨g5,0,none⟩=some (.bool gM)∧w'.cell? ⟨g5,1,none⟩=some (.slice gQ gH gK)∧w'.cell? ⟨g5,2,none⟩=some (.bool gL)∧w'.cell? ⟨g5,3,none⟩=some (.slice gP gG gJ)∧w'.cell? ⟨g6,0,none⟩=some (.bool Co)∧w'.cell? ⟨g6,1,none⟩=some (.slice Cq Cd Cm)∧w'.cell? ⟨g6,2,none⟩=some (.bool Cn)∧w'.cell? ⟨g6,3,none⟩=some (.slice Cp Cc Cl)) (go_keep) (fail)
 have R1:=qe.o.write (i:=0) (by omega) HE.o
 obtain⟨cs6,hk6⟩:=qe.o.blk
 have E26:=lP.o.set4 hk6 (0*4) (.bool gM) (.slice gQ gH gK) (.bool gL) (.slice gP gG gJ)
 have R2:=R1.write (i:=b.sup.length-1) (by omega) E26
 have M1:=MD.o.set4 hk6 HG3.o n5' n6' (0*4) (.bool gM) (.slice gQ gH gK) (.bool gL) (.slice gP gG gJ)
 obtain⟨cs7,hk7⟩:=R1.blk
 have M2:=M1.set4 hk7 HG3.o n5' n6' ((b.sup.length-1)*4) (.bool Co) (.slice Cq Cd Cm) (.bool Cn) (.slice Cp Cc Cl)
 simp only[Nat.zero_mul,Nat.zero_add] at R2 M2
 have QQ:=zh (R2.grow (yB _ _).drew)
 have JN:=zh (M2.grow (yB _ _).drew)
 generalize ((((((((Kq.setCell ⟨go,0,none⟩ (.bool gM)).setCell ⟨go,1,none⟩ (.slice gQ gH gK)).setCell ⟨go,2,none⟩ (.bool gL)).setCell ⟨go,3,none⟩ (.slice gP gG gJ)).setCell ⟨go,(b.sup.length-1)*4,none⟩ (.bool Co)).setCell ⟨go,(b.sup.length-1)*4+1,none⟩ (.slice Cq Cd Cm)).setCell ⟨go,(b.sup.length-1)*4+2,none⟩ (.bool Cn)).setCell ⟨go,(b.sup.length-1)*4+3,none⟩ (.slice Cp Cc Cl)).drew=W11 at *
 have HN:Y0 (go≠g5∧go≠g6):=⟨n5',n6'⟩
 clear R1 R2 M1 M2 E26 hk6 hk7 qe MD HE lP p0 p1 p2 p3 x0 x1 x2 x3 o0 o1 o2 o3 l0 l1 l2 l3 lF lE lD lC fl0 fl1 fl2 fl3 j0 j1 j2 j3 j4 j5 j6 n5 n6 n5' n6' HG1 HG2
 go_wp2_with fail
 refine jV 5 (fun i=>if i=1 then some (gR W11.heap.size b.sup.length) else if i=3 then some (gR W11.heap.size b.sup.length) else none) [45,47] (by kernel_rfl) (by kernel_rfl) (by kernel_rfl) (FY rfl rfl) ?_
 simp only[aU,aT,aW,aX]
 refine ae 1 (by kernel_rfl) (by rfl) (by decide) ?_
 simp only[aU,aT,aW,aX]
 repeat (go_big_quiet_step (fail))
 refine YH ?_
 refine br rfl rfl (fun w1 ao _=>Xc rfl rfl rfl (by omega) ao.size) ?_
 rintro _ ⟨gd,rfl⟩
 simp only[Act.put,aJ,aI,aH]
 refine ae 1 (by kernel_rfl) (by rfl) (by decide) ?_
 simp only[aU,aT,aW,aX]
 repeat (go_big_quiet_step (fail))
 refine YH ?_
 refine br rfl rfl (fun w1 ao _=>Xc rfl rfl rfl (by omega) ao.size) ?_
 rintro _ ⟨gr,rfl⟩
 simp only[Act.put,aJ,aI,aH]
 refine ae 1 (by kernel_rfl) (by rfl) (by decide) ?_
 simp only[aU,aT,aW,aX]
 repeat (go_big_quiet_step (fail))
 refine YH ?_
 refine Zc ?_
 intro Ri uW hF hA
 have h45:Y5 W11.heap.size b.sup.length (.slice (some ⟨gd,0,none⟩) b.sup.length b.sup.length) Ri:=hF 45
 have h47:Y5 W11.heap.size b.sup.length (.slice (some ⟨gr,0,none⟩) b.sup.length b.sup.length) Ri:=hF 47
 have hdr:gr≠gd:=fun e=>(hA 45 (by simp) gd rfl).2 47 (by simp) (by decide) (by rw[e];rfl)
 have HMR:Y0 (MomRows w Ri b (zC b (some ⟨bs,os,none⟩) cs Al cl) g5 g6 go gd gr (eh (eh (fun _=>none) 0 (bA b)) (b.sup.length-1) (bA (au b))) (fun _=>none) (fun _=>none)):=by
  obtain⟨_,e5,b45,r45⟩:=h45
  obtain⟨_,e6,b47,r47⟩:=h47
  injection e5 with e5 _ _
  injection e5 with e5
  injection e5 with e5 _ _
  injection e6 with e6 _ _
  injection e6 with e6
  injection e6 with e6 _ _
  subst e5 e6
  have k1:=QQ.o.lt
  obtain⟨_,_,_,_,_,_,_,_,k2,-⟩:=JN.o.fst
  obtain⟨_,_,_,_,_,_,_,_,k3,-⟩:=JN.o.lst
  have k2:=k2.lt
  have k3:=k3.lt
  have k4:=JN.o.bm.lt
  exact⟨JN.o.grow uW,QQ.o.grow uW,r45,r47,⟨HG3.o,by omega,by omega⟩,HN.o,⟨by omega,by omega⟩,⟨by omega,by omega⟩,⟨by omega,by omega,Ne.symm hdr⟩⟩
 clear hF hA h45 h47 hdr uW JN QQ HN HG3
 go_wp2_with fail
 have qj4:Y0 (MomRows w Ri b (zC b (some ⟨bs,os,none⟩) cs Al cl) g5 g6 go gd gr (eh (eh (fun _=>none) 0 (bA b)) (b.sup.length-1) (bA (au b))) (ib (bH b) 1) (ib (iz b) 1)):=by rw[CI,CI];exact HMR.o
 clear HMR
 go_loopw [10] (fun ix wr=>∃ i:Nat,1≤i∧i+1≤b.sup.length∧ix = .int .i64 i∧Y0 (MomRows w wr b (zC b (some ⟨bs,os,none⟩) cs Al cl) g5 g6 go gd gr (eh (eh (fun _=>none) 0 (bA b)) (b.sup.length-1) (bA (au b))) (ib (bH b) i) (ib (iz b) i))) (fun ix _=>b.sup.length-(intOf ix).toNat)
 case atStart=>exact⟨1,yA _,qkI,rfl,qj4⟩
 clear qj4
 obtain⟨i,N9,him,rfl,HR⟩:=hrel
 have k0:(1:Int)≤(i:Int):=by omega
 have k01:(i:Int)≤10:=by omega
 by_cases rk:i+1<b.sup.length
 ·have k1:(i:Int)<(b.sup.length:Int)-1:=by omega
  obtain⟨y0,y1,y2,y3,y4⟩:=HR.o.st.bm.c5
  have gu:=zh (lq.o (i-1) (by omega))
  have iC:=zh (lq.o i (by omega))
  have iN:=zh (lq.o (i+1) (by omega))
  have z0:=(HR.o.st.bel.cell (p:=⟨bs,os+(i-1),none⟩) ip).trans (lq.o (i-1) (by omega))
  have z1:=(HR.o.st.bel.cell (p:=⟨bs,os+i,none⟩) ip).trans (lq.o i (by omega))
  have z2:=(HR.o.st.bel.cell (p:=⟨bs,os+(i+1),none⟩) ip).trans (lq.o (i+1) (by omega))
  have t0:=Hb.o.sup (i-1) (by omega)
  have t1:=Hb.o.inc (i-1) (by omega)
  have t2:=Hb.o.inc i rk
  have t3:=Hb.o.sup (i+1) rk
  have t4:=Hb.o.len
  rw[show i-1+1=i by omega] at t1
  have HK:Y0 (bd b i=ak b i-ak b (i-1)):=rfl
  have HN:Y0 (bd b (i+1)=ak b (i+1)-ak b i):=rfl
  have HRH:Y0 (kQ b i=((0:Int):Rat)-cZ b (ak b (i-1)) (ak b i) true-cZ b (ak b i) (ak b (i+1)) false):=rfl
  have HSF:=mD Hb.o (i:=i-1) (by omega) true
  rw[show i-1+1=i by omega] at HSF
  have HSF:=zh HSF
  have vqt:=zh (mD Hb.o (i:=i) rk false)
  generalize ak b (i-1)=sp at *
  generalize ak b i=sq at *
  generalize ak b (i+1)=sr at *
  obtain⟨t01,t02⟩:=t0
  obtain⟨t31,t32⟩:=t3
  obtain⟨t41,t42⟩:=t4
  have i2:((i:Int)-1).toNat=i-1:=by omega
  have i3:((i:Int)+1).toNat=i+1:=by omega
  have i4:(0:Int)≤(i:Int)-1:=by omega
  have i5:(i:Int)-1<(b.sup.length:Int):=by omega
  have i6:(i:Int)+1<(b.sup.length:Int):=by omega
  have i7:(i:Int)<(b.sup.length:Int):=by omega
  have i8:(0:Int)≤(i:Int):=by omega
  have i9:(0:Int)≤(i:Int)+1:=by omega
  have v1:IntKind.i64.wrap ((i:Int)-1)=(i:Int)-1:=yF _ (by omega)
  have v2:IntKind.i64.wrap ((i:Int)+1)=(i:Int)+1:=yF _ (by omega)
  have v3:IntKind.i64.wrap (sq-sp)=sq-sp:=yF _ (by omega)
  have v4:IntKind.i64.wrap (sr-sq)=sr-sq:=yF _ (by omega)
  go_wp2_with fail
  go_quiet (fail)
  go_wp2_with fail
  refine (eV _ _ (by omega) (by omega)).mono ?_
  rintro e w5 ⟨bg,v5,rfl,Ma⟩
  obtain⟨qv1,qv3,qvX,qvZ,qv0,qv2,qvW,qvY,rfl,-,-⟩:=Ma.form
  have Yw:=zh Ma
  have m8:=zh ((HR.o.drew nq).grow bg)
  obtain⟨_,_,_,_,_,_,_,_,o0,o1,o2,o3,-⟩:=m8.o.dia.read (i:=i) (by omega)
  have lF:=m8.o.dia.frozen (i*4)
  have lE:=m8.o.dia.frozen (i*4+1)
  have lD:=m8.o.dia.frozen (i*4+2)
  have lC:=m8.o.dia.frozen (i*4+3)
  clear Ma bg HR
  go_wp2_with fail
  have vm:=zh (m8.o.putD (i:=i) (by omega) Yw.o)
  generalize ((((w5.setCell ⟨gd,i*4,none⟩ (.bool qv1)).setCell ⟨gd,i*4+1,none⟩ (.slice qv3 qvX qvZ)).setCell ⟨gd,i*4+2,none⟩ (.bool qv0)).setCell ⟨gd,i*4+3,none⟩ (.slice qv2 qvW qvY))=W6 at *
  clear m8 Yw o0 o1 o2 o3 lF lE lD lC
  obtain⟨y0,y1,y2,y3,y4⟩:=vm.o.st.bm.c5
  have FT:=YL y0
  have FR:=YL y1
  have FQ:=YL y2
  have FP:=YL y3
  have FO:=YL y4
  have z0:=(vm.o.st.bel.cell (p:=⟨bs,os+(i-1),none⟩) ip).trans gu.o
  have z1:=(vm.o.st.bel.cell (p:=⟨bs,os+i,none⟩) ip).trans iC.o
  have z2:=(vm.o.st.bel.cell (p:=⟨bs,os+(i+1),none⟩) ip).trans iN.o
  have us0:=YL z0
  have us1:=YL z1
  have us2:=YL z2
  clear y0 y1 y2 y3 y4 z0 z1 z2
  have aG:=zh vm.o.st.bel
  refine ag 32 (fun jx=>if jx=2 then some (gE (((0:Int):Rat))) else if jx=15 then some (gE (cZ b sp sq true)) else if jx=16 then some (gE (((0:Int):Rat)-cZ b sp sq true)) else if jx=29 then some (gE (cZ b sq sr false)) else if jx=30 then some (gE (((0:Int):Rat)-cZ b sp sq true-cZ b sq sr false)) else none) (by kernel_rfl) (by kernel_rfl) ?_
  simp only[aU,aT,aW,aX]
  refine ae 2 (by kernel_rfl) (by rfl) (by decide) ?_
  simp only[aU,aT,aW,aX]
  repeat (go_big_quiet_step (fail))
  refine YH ?_
  refine af rfl rfl ?_ ?_
  ·intro w1 ao hk
   have hb:=(aG.o).trans (ao.mono (aG.o).size)
   have hC:=MakesE.g (eV 0 w1 (by decide) (by decide))
   exact⟨156,#[.int .i64 0],by go_simp,hC⟩
  rintro _ ⟨qwb,qwd,qq7,qq9,qwa,qwc,qq6,qq8,rfl⟩
  simp only[Act.put,aJ,aI,aH]
  refine ae 12 (by kernel_rfl) (by rfl) (by decide) ?_
  simp only[aU,aT,aW,aX]
  repeat (go_big_quiet_step (fail))
  refine YH ?_
  refine af rfl rfl ?_ ?_
  ·intro w1 ao hk
   have hb:=(aG.o).trans (ao.mono (aG.o).size)
   have hC:=MakesE.g (XG _ b sp sq true w1 ((HV.o.below hb (yA _)).mono hb.size) Hb.o (by omega) (by omega) (by omega))
   exact⟨189,#[.agg (zC b (some ⟨bs,os,none⟩) cs Al cl),.int .i64 sp,.int .i64 sq,.bool true],by go_simp,hC⟩
  rintro _ ⟨Vr,Vu,Vn,Vp,Vq,Vt,Vm,Vo,rfl⟩
  simp only[Act.put,aJ,aI,aH]
  refine af rfl rfl ?_ ?_
  ·intro w1 ao hk
   have hb:=(aG.o).trans (ao.mono (aG.o).size)
   have h88:ExactAt w1 (.agg (zD qwb qwd qq7 qq9 qwa qwc qq6 qq8)) (((0:Int):Rat)):=hk 88 (yG (by kernel_rfl))
   have vql:ExactAt w1 (.agg (zD Vr Vu Vn Vp Vq Vt Vm Vo)) (cZ b sp sq true):=hk 101 (yG (by kernel_rfl))
   have hC:=MakesE.g (hH _ _ _ _ 1 245 w1 h88 vql (bp (by decide) (yA _)) HSF.o (by decide))
   exact⟨159,#[.agg (zD qwb qwd qq7 qq9 qwa qwc qq6 qq8),.agg (zD Vr Vu Vn Vp Vq Vt Vm Vo)],by go_simp,hC⟩
  rintro _ ⟨Vj,Vl,Vf,Vh,Vi,Vk,Ve,Vg,rfl⟩
  simp only[Act.put,aJ,aI,aH]
  refine ae 12 (by kernel_rfl) (by rfl) (by decide) ?_
  simp only[aU,aT,aW,aX]
  repeat (go_big_quiet_step (fail))
  refine YH ?_
  refine af rfl rfl ?_ ?_
  ·intro w1 ao hk
   have hb:=(aG.o).trans (ao.mono (aG.o).size)
   have hC:=MakesE.g (XG _ b sq sr false w1 ((HV.o.below hb (yA _)).mono hb.size) Hb.o (by omega) (by omega) (by omega))
   exact⟨189,#[.agg (zC b (some ⟨bs,os,none⟩) cs Al cl),.int .i64 sq,.int .i64 sr,.bool false],by go_simp,hC⟩
  rintro _ ⟨US,UU,UO,UQ,UR,UT,UN,UP,rfl⟩
  simp only[Act.put,aJ,aI,aH]
  refine af rfl rfl ?_ ?_
  ·intro w1 ao hk
   have hb:=(aG.o).trans (ao.mono (aG.o).size)
   have vqk:ExactAt w1 (.agg (zD Vj Vl Vf Vh Vi Vk Ve Vg)) (((0:Int):Rat)-cZ b sp sq true):=hk 102 (yG (by kernel_rfl))
   have vqh:ExactAt w1 (.agg (zD US UU UO UQ UR UT UN UP)) (cZ b sq sr false):=hk 115 (yG (by kernel_rfl))
   have hC:=MakesE.g (hH _ _ _ _ 247 245 w1 vqk vqh (cV (K:=1) (M:=245) (bp (by decide) (yA _)) HSF.o) vqt.o (by decide))
   exact⟨159,#[.agg (zD Vj Vl Vf Vh Vi Vk Ve Vg),.agg (zD US UU UO UQ UR UT UN UP)],by go_simp,hC⟩
  rintro _ ⟨Lp,Lr,Lk,Lm,Ln,Lq,Lj,Ll,rfl⟩
  simp only[Act.put,aJ,aI,aH]
  refine ae 1 (by kernel_rfl) (by rfl) (by decide) ?_
  simp only[aU,aT,aW,aX]
  repeat (go_big_quiet_step (fail))
  refine YH ?_
  refine Zc ?_
  intro w8 aM hF
  have qvO:ExactAt w8 (.agg (zD Lp Lr Lk Lm Ln Lq Lj Ll)) (((0:Int):Rat)-cZ b sp sq true-cZ b sq sr false):=hF 116
  rw[← HRH.o] at qvO
  have Oo:=zh qvO
  have qn:=zh (vm.o.grow aM)
  obtain⟨_,_,_,_,_,_,_,_,o0,o1,o2,o3,-⟩:=qn.o.rgt.read (i:=i) (by omega)
  have lF:=qn.o.rgt.frozen (i*4)
  have lE:=qn.o.rgt.frozen (i*4+1)
  have lD:=qn.o.rgt.frozen (i*4+2)
  have lC:=qn.o.rgt.frozen (i*4+3)
  clear hF qvO aM vm aG FT FR FQ FP FO us0 us1 us2
  by_cases h1:i=1
  ·have hd:((i:Int)==1)=true:=beq_iff_eq.2 (by omega)
   have hFR:=pz Hb.o N9 rk
   have HFR:=zh hFR
   have nD:Y0 (bH b i=((2*(sq-sp+(sr-sq)):Int):Rat)):=by unfold Y0;rw[← HK.o,← HN.o,h1];rfl
   have lP:Y0 (iz b i=kQ b i-bA b*((sq-sp:Int):Rat)):=by unfold Y0;rw[← HK.o,h1];rfl
   clear h1 hFR
   go_wp2_with fail
   have Eb:=zh (qn.o.putR (i:=i) (by omega) Oo.o)
   generalize ((((w8.setCell ⟨gr,i*4,none⟩ (.bool Lp)).setCell ⟨gr,i*4+1,none⟩ (.slice Lr Lk Lm)).setCell ⟨gr,i*4+2,none⟩ (.bool Ln)).setCell ⟨gr,i*4+3,none⟩ (.slice Lq Lj Ll))=W9 at *
   clear qn Oo o0 o1 o2 o3 lF lE lD lC
   obtain⟨fJ,fK,fH,fI,fw,fx,fu,fv,a0,a1,a2,a3,mj⟩:=Eb.o.rgt.read (i:=i) (by omega)
   have my:=zh (mj _ (dS _ _ _))
   have pY:=YL a0
   have pX:=YL a1
   have pW:=YL a2
   have pV:=YL a3
   clear a0 a1 a2 a3 mj
   obtain⟨kl,ko,ki,kj,jI,jJ,jG,jH,hBc,Bz⟩:=Eb.o.st.fst
   obtain⟨c0,c1,c2,c3⟩:=hBc.c4
   have BW:=zh Bz
   have FN:=YL c0
   have Eh:=YL c1
   have FM:=YL c2
   have vV:=YL c3
   clear c0 c1 c2 c3 Bz hBc
   have aG:=zh Eb.o.st.bel
   refine ag 12 (fun jx=>if jx=8 then some (gE (((sq-sp:Int):Rat))) else if jx=9 then some (gE (bA b*((sq-sp:Int):Rat))) else if jx=10 then some (gE (kQ b i-bA b*((sq-sp:Int):Rat))) else none) (by kernel_rfl) (by kernel_rfl) ?_
   simp only[aU,aT,aW,aX]
   refine ae 8 (by kernel_rfl) (by rfl) (by decide) ?_
   simp only[aU,aT,aW,aX]
   repeat (go_big_quiet_step (fail))
   refine YH ?_
   refine af rfl rfl ?_ ?_
   ·intro w1 ao hk
    have hb:=(aG.o).trans (ao.mono (aG.o).size)
    have hC:=MakesE.g (eV (sq-sp) w1 (by omega) (by omega))
    exact⟨156,#[.int .i64 (sq-sp)],by go_simp,hC⟩
   rintro _ ⟨U4,U6,U0,U2,U3,U5,Uz,U1,rfl⟩
   simp only[Act.put,aJ,aI,aH]
   refine af rfl rfl ?_ ?_
   ·intro w1 ao hk
    have hb:=(aG.o).trans (ao.mono (aG.o).size)
    have qvK:ExactAt w1 (.agg (zD U4 U6 U0 U2 U3 U5 Uz U1)) (((sq-sp:Int):Rat)):=hk 128 (yG (by kernel_rfl))
    have hC:=MakesE.g (sF _ _ _ _ 247 1 w1 (BW.o.grow ao) qvK (dM Hb.o) (bp (by rw[Nat.pow_one];omega) (yA _)) (by decide))
    exact⟨190,#[.agg (zD kl ko ki kj jI jJ jG jH),.agg (zD U4 U6 U0 U2 U3 U5 Uz U1)],by go_simp,hC⟩
   rintro _ ⟨zw,zy,zr,zu,zv,zx,zq,zt,rfl⟩
   simp only[Act.put,aJ,aI,aH]
   refine af rfl rfl ?_ ?_
   ·intro w1 ao hk
    have hb:=(aG.o).trans (ao.mono (aG.o).size)
    have qvJ:ExactAt w1 (.agg (zD zw zy zr zu zv zx zq zt)) (bA b*((sq-sp:Int):Rat)):=hk 129 (yG (by kernel_rfl))
    have hC:=MakesE.g (hH _ _ _ _ 493 248 w1 (my.o.grow ao) qvJ HFR.o (iR (K:=247) (M:=1) (dM Hb.o) (bp (by rw[Nat.pow_one];omega) (yA _))) (by decide))
    exact⟨159,#[.agg (zD fJ fK fH fI fw fx fu fv),.agg (zD zw zy zr zu zv zx zq zt)],by go_simp,hC⟩
   rintro _ ⟨Uw,Uy,Us,Uu,Uv,Ux,Ur,Ut,rfl⟩
   simp only[Act.put,aJ,aI,aH]
   refine ae 1 (by kernel_rfl) (by rfl) (by decide) ?_
   simp only[aU,aT,aW,aX]
   repeat (go_big_quiet_step (fail))
   refine YH ?_
   refine Zc ?_
   intro w8 aM hF
   have qjP:ExactAt w8 (.agg (zD Uw Uy Us Uu Uv Ux Ur Ut)) (kQ b i-bA b*((sq-sp:Int):Rat)):=hF 130
   have qzc:=zh qjP
   have C8:=zh (Eb.o.grow aM)
   obtain⟨_,_,_,_,_,_,_,_,o0,o1,o2,o3,-⟩:=C8.o.rgt.read (i:=i) (by omega)
   have lF:=C8.o.rgt.frozen (i*4)
   have lE:=C8.o.rgt.frozen (i*4+1)
   have lD:=C8.o.rgt.frozen (i*4+2)
   have lC:=C8.o.rgt.frozen (i*4+3)
   clear hF qjP aM Eb aG pY pX pW pV my FN Eh FM vV BW
   go_wp2_with fail
   have Oh:=zh (C8.o.putR (i:=i) (by omega) qzc.o)
   generalize ((((w8.setCell ⟨gr,i*4,none⟩ (.bool Uw)).setCell ⟨gr,i*4+1,none⟩ (.slice Uy Us Uu)).setCell ⟨gr,i*4+2,none⟩ (.bool Uv)).setCell ⟨gr,i*4+3,none⟩ (.slice Ux Ur Ut))=Mw at *
   have Og:Y0 (MomRows w Mw b (zC b (some ⟨bs,os,none⟩) cs Al cl) g5 g6 go gd gr (eh (eh (fun _=>none) 0 (bA b)) (b.sup.length-1) (bA (au b))) (ib (bH b) (i+1)) (ib (iz b) (i+1))):=by
    unfold Y0
    rw[mA _ N9,mA _ N9,nD.o,lP.o,← dT (ib (iz b) i) i (kQ b i)]
    exact Oh.o
   clear C8 Oh qzc o0 o1 o2 o3 lF lE lD lC
   go_roundw
   case rel=>exact⟨i+1,by omega,by omega,by go_num,Og⟩
   simp[intOf];omega
  have hd:((i:Int)==1)=false:=beq_eq_false_iff_ne.2 (by omega)
  have HFR:=zh (pz Hb.o N9 rk)
  have nD:Y0 (bH b i=((2*(sq-sp+(sr-sq)):Int):Rat)-((sq-sp:Int):Rat) / bH b (i-1)*((sq-sp:Int):Rat)):=by unfold Y0;rw[← HK.o,← HN.o];exact X0 b (by omega)
  have lP:Y0 (iz b i=kQ b i-((sq-sp:Int):Rat) / bH b (i-1)*iz b (i-1)):=by unfold Y0;rw[← HK.o];exact ZJ b (by omega)
  have HDz:=zh (mT Hb.o (i:=i-1) (by omega) (by omega))
  have Q7:=zh (aN (M:=41) (jw Hb.o (i-1) (by omega) (by omega)) (by omega))
  have HRf:=zh (aN (M:=6200) (nI Hb.o (i-1) (by omega) (by omega)) (by omega))
  have HDd:=zh (vW Hb.o (i:=i) N9 rk)
  rw[HK.o,HN.o] at HDd
  go_wp2_with fail
  have Eb:=zh (qn.o.putR (i:=i) (by omega) Oo.o)
  generalize ((((w8.setCell ⟨gr,i*4,none⟩ (.bool Lp)).setCell ⟨gr,i*4+1,none⟩ (.slice Lr Lk Lm)).setCell ⟨gr,i*4+2,none⟩ (.bool Ln)).setCell ⟨gr,i*4+3,none⟩ (.slice Lq Lj Ll))=W9 at *
  clear qn Oo o0 o1 o2 o3 lF lE lD lC
  obtain⟨fJ,fK,fH,fI,fw,fx,fu,fv,a0,a1,a2,a3,mj⟩:=Eb.o.dia.read (i:=(i-1)) (by omega)
  have my:=zh (mj _ ((AA _ _ (by omega)).trans (r5 _ (by omega) (by omega))))
  have pY:=YL a0
  have pX:=YL a1
  have pW:=YL a2
  have pV:=YL a3
  clear a0 a1 a2 a3 mj
  have aG:=zh Eb.o.st.bel
  refine ag 9 (fun jx=>if jx=1 then some (gE (((sq-sp:Int):Rat))) else if jx=7 then some (gE (((sq-sp:Int):Rat) / bH b (i-1))) else if jx=8 then some (gA W9.heap.size) else none) (by kernel_rfl) (by kernel_rfl) ?_
  simp only[aU,aT,aW,aX]
  refine ae 1 (by kernel_rfl) (by rfl) (by decide) ?_
  simp only[aU,aT,aW,aX]
  repeat (go_big_quiet_step (fail))
  refine YH ?_
  refine af rfl rfl ?_ ?_
  ·intro w1 ao hk
   have hb:=(aG.o).trans (ao.mono (aG.o).size)
   have hC:=MakesE.g (eV (sq-sp) w1 (by omega) (by omega))
   exact⟨156,#[.int .i64 (sq-sp)],by go_simp,hC⟩
  rintro _ ⟨Uo,Uq,Uk,Um,Un,Up,Uj,Ul,rfl⟩
  simp only[Act.put,aJ,aI,aH]
  refine ae 5 (by kernel_rfl) (by rfl) (by decide) ?_
  simp only[aU,aT,aW,aX]
  repeat (go_big_quiet_step (fail))
  refine YH ?_
  refine af rfl rfl ?_ ?_
  ·intro w1 ao hk
   have hb:=(aG.o).trans (ao.mono (aG.o).size)
   have vqe:ExactAt w1 (.agg (zD Uo Uq Uk Um Un Up Uj Ul)) (((sq-sp:Int):Rat)):=hk 133 (yG (by kernel_rfl))
   have hC:=MakesE.g (DN _ _ _ _ 1 41 w1 vqe (my.o.grow ao) (bp (by rw[Nat.pow_one];omega) (yA _)) Q7.o HDz.o (by decide))
   exact⟨160,#[.agg (zD Uo Uq Uk Um Un Up Uj Ul),.agg (zD fJ fK fH fI fw fx fu fv)],by go_simp,hC⟩
  rintro _ ⟨KX,La,KT,KV,KW,KY,KS,KU,rfl⟩
  simp only[Act.put,aJ,aI,aH]
  refine br rfl rfl (fun w1 ao _=>Mg ao.size (by go_simp)) ?_
  rintro _ ⟨C2,rfl⟩
  simp only[Act.put,aJ,aI,aH]
  refine Zc ?_
  intro w8 aM hF
  have qjO:ExactAt w8 (.agg (zD KX La KT KV KW KY KS KU)) (((sq-sp:Int):Rat) / bH b (i-1)):=hF 139
  have Ch:Ed W9.heap.size (.pointer (some ⟨C2,0,none⟩)) w8:=hF 13
  have qzb:=zh qjO
  have C8:=zh (Eb.o.grow aM)
  obtain⟨_,e13,b13,YQ⟩:=Ch
  injection e13 with e13
  injection e13 with e13
  injection e13 with e13 _ _
  subst e13
  have HAl:=zh (Eb.o.all_lt b13)
  have q0:=YQ.cell 0
  have q1:=YQ.cell 1
  have q2:=YQ.cell 2
  have q3:=YQ.cell 3
  have f0:=YQ.frozen 0
  have f1:=YQ.frozen 1
  have f2:=YQ.frozen 2
  have f3:=YQ.frozen 3
  simp only[aP,aQ,aO] at q0 q1 q2 q3
  have qjj:=zh YQ
  clear hF qjO aM Eb aG b13 YQ pY pX pW pV my
  go_wp2_with fail
  have Oh:=zh (C8.o.farB qjj.o HAl.o (.bool KX) (.slice La KT KV) (.bool KW) (.slice KY KS KU))
  have po:=zh (ExBox.put qjj.o rfl qzb.o)
  generalize (((w8.setCell ⟨C2,0,none⟩ (.bool KX)).setCell ⟨C2,1,none⟩ (.slice La KT KV)).setCell ⟨C2,2,none⟩ (.bool KW)).setCell ⟨C2,3,none⟩ (.slice KY KS KU)=Mw at *
  clear C8 qjj qzb q0 q1 q2 q3 f0 f1 f2 f3
  obtain⟨fJ,fK,fH,fI,fw,fx,fu,fv,a0,a1,a2,a3,mj⟩:=Oh.o.dia.read (i:=i) (by omega)
  have my:=zh (mj _ (dS _ _ _))
  have pY:=YL a0
  have pX:=YL a1
  have pW:=YL a2
  have pV:=YL a3
  clear a0 a1 a2 a3 mj
  obtain⟨kl,ko,ki,kj,jI,jJ,jG,jH,hBc,Bz⟩:=po.o
  obtain⟨c0,c1,c2,c3⟩:=hBc.c4
  have BW:=zh Bz
  have FN:=YL c0
  have Eh:=YL c1
  have FM:=YL c2
  have vV:=YL c3
  clear c0 c1 c2 c3 Bz hBc
  have aG:=zh Oh.o.st.bel
  refine ag 12 (fun jx=>if jx=8 then some (gE (((sq-sp:Int):Rat))) else if jx=9 then some (gE (((sq-sp:Int):Rat) / bH b (i-1)*((sq-sp:Int):Rat))) else if jx=10 then some (gE (((2*(sq-sp+(sr-sq)):Int):Rat)-((sq-sp:Int):Rat) / bH b (i-1)*((sq-sp:Int):Rat))) else none) (by kernel_rfl) (by kernel_rfl) ?_
  simp only[aU,aT,aW,aX]
  refine ae 8 (by kernel_rfl) (by rfl) (by decide) ?_
  simp only[aU,aT,aW,aX]
  repeat (go_big_quiet_step (fail))
  refine YH ?_
  refine af rfl rfl ?_ ?_
  ·intro w1 ao hk
   have hb:=(aG.o).trans (ao.mono (aG.o).size)
   have hC:=MakesE.g (eV (sq-sp) w1 (by omega) (by omega))
   exact⟨156,#[.int .i64 (sq-sp)],by go_simp,hC⟩
  rintro _ ⟨yt,yv,yl,yq,yr,yu,yk,yo,rfl⟩
  simp only[Act.put,aJ,aI,aH]
  refine af rfl rfl ?_ ?_
  ·intro w1 ao hk
   have hb:=(aG.o).trans (ao.mono (aG.o).size)
   have qvH:ExactAt w1 (.agg (zD yt yv yl yq yr yu yk yo)) (((sq-sp:Int):Rat)):=hk 148 (yG (by kernel_rfl))
   have hC:=MakesE.g (sF _ _ _ _ 42 1 w1 (BW.o.grow ao) qvH (dX (K:=1) (M:=41) HDz.o (bp (by rw[Nat.pow_one];omega) (yA _)) Q7.o) (bp (by rw[Nat.pow_one];omega) (yA _)) (by decide))
   exact⟨190,#[.agg (zD kl ko ki kj jI jJ jG jH),.agg (zD yt yv yl yq yr yu yk yo)],by go_simp,hC⟩
  rintro _ ⟨TX,Ua,TT,TV,TW,TY,TS,TU,rfl⟩
  simp only[Act.put,aJ,aI,aH]
  refine af rfl rfl ?_ ?_
  ·intro w1 ao hk
   have hb:=(aG.o).trans (ao.mono (aG.o).size)
   have vqb:ExactAt w1 (.agg (zD TX Ua TT TV TW TY TS TU)) (((sq-sp:Int):Rat) / bH b (i-1)*((sq-sp:Int):Rat)):=hk 149 (yG (by kernel_rfl))
   have hC:=MakesE.g (hH _ _ _ _ 1 43 w1 (my.o.grow ao) vqb HDd.o (iR (K:=42) (M:=1) (dX (K:=1) (M:=41) HDz.o (bp (by rw[Nat.pow_one];omega) (yA _)) Q7.o) (bp (by rw[Nat.pow_one];omega) (yA _))) (by decide))
   exact⟨159,#[.agg (zD fJ fK fH fI fw fx fu fv),.agg (zD TX Ua TT TV TW TY TS TU)],by go_simp,hC⟩
  rintro _ ⟨tg,tj,tb,td,tf,ti,ta,tc,rfl⟩
  simp only[Act.put,aJ,aI,aH]
  refine ae 1 (by kernel_rfl) (by rfl) (by decide) ?_
  simp only[aU,aT,aW,aX]
  repeat (go_big_quiet_step (fail))
  refine YH ?_
  refine Zc ?_
  intro w8 aM hF
  have qzn:ExactAt w8 (.agg (zD tg tj tb td tf ti ta tc)) (((2*(sq-sp+(sr-sq)):Int):Rat)-((sq-sp:Int):Rat) / bH b (i-1)*((sq-sp:Int):Rat)):=hF 150
  have qx9:=zh qzn
  have Yo:=zh (Oh.o.grow aM)
  have HBy:=zh (po.o.grow aM)
  obtain⟨_,_,_,_,_,_,_,_,o0,o1,o2,o3,-⟩:=Yo.o.dia.read (i:=i) (by omega)
  have lF:=Yo.o.dia.frozen (i*4)
  have lE:=Yo.o.dia.frozen (i*4+1)
  have lD:=Yo.o.dia.frozen (i*4+2)
  have lC:=Yo.o.dia.frozen (i*4+3)
  clear hF qzn aM Oh po aG pY pX pW pV my FN Eh FM vV BW
  go_wp2_with fail
  have HRd:=zh (Yo.o.putD (i:=i) (by omega) qx9.o)
  obtain⟨csd,hkd⟩:=Yo.o.dia.blk
  have HBz:=zh (HBy.o.far hkd (Nat.ne_of_gt (HAl.o gd (by simp))) (i*4) (.bool tg) (.slice tj tb td) (.bool tf) (.slice ti ta tc))
  generalize ((((w8.setCell ⟨gd,i*4,none⟩ (.bool tg)).setCell ⟨gd,i*4+1,none⟩ (.slice tj tb td)).setCell ⟨gd,i*4+2,none⟩ (.bool tf)).setCell ⟨gd,i*4+3,none⟩ (.slice ti ta tc))=W11 at *
  clear Yo HBy hkd qx9 o0 o1 o2 o3 lF lE lD lC
  obtain⟨fJ,fK,fH,fI,fw,fx,fu,fv,a0,a1,a2,a3,mj⟩:=HRd.o.rgt.read (i:=i) (by omega)
  have my:=zh (mj _ (dS _ _ _))
  have pY:=YL a0
  have pX:=YL a1
  have pW:=YL a2
  have pV:=YL a3
  clear a0 a1 a2 a3 mj
  obtain⟨kl,ko,ki,kj,jI,jJ,jG,jH,hBc,Bz⟩:=HBz.o
  obtain⟨c0,c1,c2,c3⟩:=hBc.c4
  have BW:=zh Bz
  have FN:=YL c0
  have Eh:=YL c1
  have FM:=YL c2
  have vV:=YL c3
  clear c0 c1 c2 c3 Bz hBc
  obtain⟨Co,Cq,Cd,Cm,Cn,Cp,Cc,Cl,d0,d1,d2,d3,Ji⟩:=HRd.o.rgt.read (i:=(i-1)) (by omega)
  have JO:=zh (Ji _ ((AA _ _ (by omega)).trans (r5 _ (by omega) (by omega))))
  have FL:=YL d0
  have FK:=YL d1
  have FJ:=YL d2
  have FI:=YL d3
  clear d0 d1 d2 d3 Ji
  have aG:=zh HRd.o.st.bel
  refine ag 15 (fun jx=>if jx=12 then some (gE (((sq-sp:Int):Rat) / bH b (i-1)*iz b (i-1))) else if jx=13 then some (gE (kQ b i-((sq-sp:Int):Rat) / bH b (i-1)*iz b (i-1))) else none) (by kernel_rfl) (by kernel_rfl) ?_
  simp only[aU,aT,aW,aX]
  refine ae 12 (by kernel_rfl) (by rfl) (by decide) ?_
  simp only[aU,aT,aW,aX]
  repeat (go_big_quiet_step (fail))
  refine YH ?_
  refine af rfl rfl ?_ ?_
  ·intro w1 ao hk
   have hb:=(aG.o).trans (ao.mono (aG.o).size)
   have hC:=MakesE.g (sF _ _ _ _ 42 6200 w1 (BW.o.grow ao) (JO.o.grow ao) (dX (K:=1) (M:=41) HDz.o (bp (by rw[Nat.pow_one];omega) (yA _)) Q7.o) HRf.o (by decide))
   exact⟨190,#[.agg (zD kl ko ki kj jI jJ jG jH),.agg (zD Co Cq Cd Cm Cn Cp Cc Cl)],by go_simp,hC⟩
  rintro _ ⟨TG,TI,TC,TE,TF,TH,TB,TD,rfl⟩
  simp only[Act.put,aJ,aI,aH]
  refine af rfl rfl ?_ ?_
  ·intro w1 ao hk
   have hb:=(aG.o).trans (ao.mono (aG.o).size)
   have vqa:ExactAt w1 (.agg (zD TG TI TC TE TF TH TB TD)) (((sq-sp:Int):Rat) / bH b (i-1)*iz b (i-1)):=hk 164 (yG (by kernel_rfl))
   have hC:=MakesE.g (hH _ _ _ _ 493 6242 w1 (my.o.grow ao) vqa HFR.o (iR (K:=42) (M:=6200) (dX (K:=1) (M:=41) HDz.o (bp (by rw[Nat.pow_one];omega) (yA _)) Q7.o) HRf.o) (by decide))
   exact⟨159,#[.agg (zD fJ fK fH fI fw fx fu fv),.agg (zD TG TI TC TE TF TH TB TD)],by go_simp,hC⟩
  rintro _ ⟨T8,TA,Tz,T6,T7,T9,Tx,T5,rfl⟩
  simp only[Act.put,aJ,aI,aH]
  refine ae 1 (by kernel_rfl) (by rfl) (by decide) ?_
  simp only[aU,aT,aW,aX]
  repeat (go_big_quiet_step (fail))
  refine YH ?_
  refine Zc ?_
  intro w8 aM hF
  have qjN:ExactAt w8 (.agg (zD T8 TA Tz T6 T7 T9 Tx T5)) (kQ b i-((sq-sp:Int):Rat) / bH b (i-1)*iz b (i-1)):=hF 165
  have qx8:=zh qjN
  have Cj:=zh (HRd.o.grow aM)
  obtain⟨_,_,_,_,_,_,_,_,o0,o1,o2,o3,-⟩:=Cj.o.rgt.read (i:=i) (by omega)
  have lF:=Cj.o.rgt.frozen (i*4)
  have lE:=Cj.o.rgt.frozen (i*4+1)
  have lD:=Cj.o.rgt.frozen (i*4+2)
  have lC:=Cj.o.rgt.frozen (i*4+3)
  clear hF qjN aM HRd HBz aG pY pX pW pV my FN Eh FM vV BW FL FK FJ FI JO
  go_wp2_with fail
  have qj0:=zh (Cj.o.putR (i:=i) (by omega) qx8.o)
  generalize ((((w8.setCell ⟨gr,i*4,none⟩ (.bool T8)).setCell ⟨gr,i*4+1,none⟩ (.slice TA Tz T6)).setCell ⟨gr,i*4+2,none⟩ (.bool T7)).setCell ⟨gr,i*4+3,none⟩ (.slice T9 Tx T5))=W12 at *
  have Og:Y0 (MomRows w W12 b (zC b (some ⟨bs,os,none⟩) cs Al cl) g5 g6 go gd gr (eh (eh (fun _=>none) 0 (bA b)) (b.sup.length-1) (bA (au b))) (ib (bH b) (i+1)) (ib (iz b) (i+1))):=by
   unfold Y0
   rw[mA _ N9,mA _ N9,nD.o,lP.o,← dT (ib (iz b) i) i (kQ b i),← dT (ib (bH b) i) i ((2*(sq-sp+(sr-sq)):Int):Rat)]
   exact qj0.o
  clear Cj qj0 qx8 o0 o1 o2 o3 lF lE lD lC
  go_roundw
  case rel=>exact⟨i+1,by omega,by omega,by go_num,Og⟩
  simp[intOf];omega
 obtain YY:i=b.sup.length-1:=by omega
 subst YY
 have HO:Y0 (MomRows w wr b (zC b (some ⟨bs,os,none⟩) cs Al cl) g5 g6 go gd gr (qk b (b.sup.length-2)) (ib (bH b) (b.sup.length-1)) (ib (iz b) (b.sup.length-1))):=HR.o.weakO fun j q hj h=>JE b (by omega) hj h
 have kz:decide (((b.sup.length-1:Nat):Int)<(b.sup.length:Int)-1)=false:=yC (by omega)
 have kz2:((b.sup.length-1:Nat):Int)=(b.sup.length:Int)-1:=by omega
 rw[kz2] at kz ⊢
 have kz3:(b.sup.length:Int)-2=((b.sup.length-2:Nat):Int):=by omega
 have KZ:=zh kz3
 clear HR rk k0 k01 kz2 kz3
 go_wp2_with fail
 rw[KZ.o]
 clear KZ kz
 go_loopw [14] (fun ix wr=>∃ i:Nat,i+2≤b.sup.length∧ix = .int .i64 i∧Y0 (MomRows w wr b (zC b (some ⟨bs,os,none⟩) cs Al cl) g5 g6 go gd gr (qk b i) (ib (bH b) (b.sup.length-1)) (ib (iz b) (b.sup.length-1)))) (fun ix _=>(intOf ix).toNat)
 case atStart=>exact⟨b.sup.length-2,by omega,rfl,HO⟩
 clear HO
 obtain⟨i,him,rfl,HR⟩:=hrel
 have k01:(i:Int)≤10:=by omega
 rcases Nat.eq_zero_or_pos i with h0 | h0
 ·subst h0
  have HX:=zh (HR.o.o.weak fun j q _ h=>Qr b h)
  have HBl:=zh HR.o.st.bel
  clear HR
  go_wp2_with fail
  refine YI (results_tmp2 rfl _ _ _) (by rfl) ?_
  exact⟨HBl.o,.slice (some ⟨go,0,none⟩) b.sup.length b.sup.length,by rw[HT.o];rfl,go,by rw[rQ],by rw[rQ];exact HX.o⟩
 have k0:(1:Int)≤(i:Int):=by omega
 have k02:(0:Int)<(i:Int):=by omega
 obtain⟨y0,y1,y2,y3,y4⟩:=HR.o.st.bm.c5
 have z1:=(HR.o.st.bel.cell (p:=⟨bs,os+i,none⟩) ip).trans (lq.o i (by omega))
 have z2:=(HR.o.st.bel.cell (p:=⟨bs,os+(i+1),none⟩) ip).trans (lq.o (i+1) (by omega))
 have t1:=Hb.o.sup i (by omega)
 have t2:=Hb.o.inc i (by omega)
 have t3:=Hb.o.sup (i+1) (by omega)
 have t4:=Hb.o.len
 have HN:Y0 (bd b (i+1)=ak b (i+1)-ak b i):=rfl
 have HMs:=zh (VD b h0 (show i+1<b.sup.length by omega))
 rw[HN.o] at HMs
 have HDz:=zh (mT Hb.o (i:=i) h0 (by omega))
 have Q7:=zh (aN (M:=41) (jw Hb.o i h0 (by omega)) (by omega))
 have HRf:=zh (aN (M:=6200) (nI Hb.o i h0 (by omega)) (by omega))
 have HMf:=zh (fR Hb.o (i:=i+1) (by omega))
 generalize ak b i=sq at *
 generalize ak b (i+1)=sr at *
 obtain⟨t11,t12⟩:=t1
 obtain⟨t31,t32⟩:=t3
 obtain⟨t41,t42⟩:=t4
 have i3:((i:Int)+1).toNat=i+1:=by omega
 have i6:(i:Int)+1<(b.sup.length:Int):=by omega
 have i7:(i:Int)<(b.sup.length:Int):=by omega
 have i8:(0:Int)≤(i:Int):=by omega
 have i9:(0:Int)≤(i:Int)+1:=by omega
 have v2:IntKind.i64.wrap ((i:Int)+1)=(i:Int)+1:=yF _ (by omega)
 have v4:IntKind.i64.wrap (sr-sq)=sr-sq:=yF _ (by omega)
 go_wp2_with fail
 go_quiet (fail)
 go_wp2_with fail
 have MA:=zh (HR.o.drew nq)
 generalize wr.drewN nq=W9 at *
 clear HR y0 y1 y2 y3 y4 z1 z2
 obtain⟨fJ,fK,fH,fI,fw,fx,fu,fv,a0,a1,a2,a3,mj⟩:=MA.o.rgt.read (i:=i) (by omega)
 have my:=zh (mj _ (r5 _ h0 (by omega)))
 have pY:=YL a0
 have pX:=YL a1
 have pW:=YL a2
 have pV:=YL a3
 clear a0 a1 a2 a3 mj
 obtain⟨kl,ko,ki,kj,jI,jJ,jG,jH,c0,c1,c2,c3,Bz⟩:=MA.o.o.read (i:=(i+1)) (by omega)
 have BW:=zh (Bz _ (XT b (Nat.lt_succ_self i)))
 have FN:=YL c0
 have Eh:=YL c1
 have FM:=YL c2
 have vV:=YL c3
 clear c0 c1 c2 c3 Bz
 obtain⟨Co,Cq,Cd,Cm,Cn,Cp,Cc,Cl,d0,d1,d2,d3,Ji⟩:=MA.o.dia.read (i:=i) (by omega)
 have JO:=zh (Ji _ (r5 _ h0 (by omega)))
 have FL:=YL d0
 have FK:=YL d1
 have FJ:=YL d2
 have FI:=YL d3
 clear d0 d1 d2 d3 Ji
 have aG:=zh MA.o.st.bel
 refine ag 21 (fun jx=>if jx=12 then some (gE (((sr-sq:Int):Rat))) else if jx=13 then some (gE (Zx b (i+1)*((sr-sq:Int):Rat))) else if jx=14 then some (gE (iz b i-Zx b (i+1)*((sr-sq:Int):Rat))) else if jx=19 then some (gE ((iz b i-Zx b (i+1)*((sr-sq:Int):Rat)) / bH b i)) else none) (by kernel_rfl) (by kernel_rfl) ?_
 simp only[aU,aT,aW,aX]
 refine ae 12 (by kernel_rfl) (by rfl) (by decide) ?_
 simp only[aU,aT,aW,aX]
 repeat (go_big_quiet_step (fail))
 refine YH ?_
 refine af rfl rfl ?_ ?_
 ·intro w1 ao hk
  have hb:=(aG.o).trans (ao.mono (aG.o).size)
  have hC:=MakesE.g (eV (sr-sq) w1 (by omega) (by omega))
  exact⟨156,#[.int .i64 (sr-sq)],by go_simp,hC⟩
 rintro _ ⟨SR,SU,SN,SP,SQ,SS,SL,SO,rfl⟩
 simp only[Act.put,aJ,aI,aH]
 refine af rfl rfl ?_ ?_
 ·intro w1 ao hk
  have hb:=(aG.o).trans (ao.mono (aG.o).size)
  have qk7:ExactAt w1 (.agg (zD SR SU SN SP SQ SS SL SO)) (((sr-sq:Int):Rat)):=hk 197 (yG (by kernel_rfl))
  have hC:=MakesE.g (sF _ _ _ _ 60000 1 w1 (BW.o.grow ao) qk7 HMf.o (bp (by rw[Nat.pow_one];omega) (yA _)) (by decide))
  exact⟨190,#[.agg (zD kl ko ki kj jI jJ jG jH),.agg (zD SR SU SN SP SQ SS SL SO)],by go_simp,hC⟩
 rintro _ ⟨SI,SK,SE,SG,SH,SJ,SD,SF,rfl⟩
 simp only[Act.put,aJ,aI,aH]
 refine af rfl rfl ?_ ?_
 ·intro w1 ao hk
  have hb:=(aG.o).trans (ao.mono (aG.o).size)
  have qk6:ExactAt w1 (.agg (zD SI SK SE SG SH SJ SD SF)) (Zx b (i+1)*((sr-sq:Int):Rat)):=hk 198 (yG (by kernel_rfl))
  have hC:=MakesE.g (hH _ _ _ _ 6200 60001 w1 (my.o.grow ao) qk6 HRf.o (iR (K:=60000) (M:=1) HMf.o (bp (by rw[Nat.pow_one];omega) (yA _))) (by decide))
  exact⟨159,#[.agg (zD fJ fK fH fI fw fx fu fv),.agg (zD SI SK SE SG SH SJ SD SF)],by go_simp,hC⟩
 rintro _ ⟨SA,SC,S6,S8,S9,SB,S5,S7,rfl⟩
 simp only[Act.put,aJ,aI,aH]
 refine ae 4 (by kernel_rfl) (by rfl) (by decide) ?_
 simp only[aU,aT,aW,aX]
 repeat (go_big_quiet_step (fail))
 refine YH ?_
 refine af rfl rfl ?_ ?_
 ·intro w1 ao hk
  have hb:=(aG.o).trans (ao.mono (aG.o).size)
  have WU:ExactAt w1 (.agg (zD SA SC S6 S8 S9 SB S5 S7)) (iz b i-Zx b (i+1)*((sr-sq:Int):Rat)):=hk 199 (yG (by kernel_rfl))
  have hC:=MakesE.g (DN _ _ _ _ 66202 41 w1 WU (JO.o.grow ao) (cV (K:=6200) (M:=60001) HRf.o (iR (K:=60000) (M:=1) HMf.o (bp (by rw[Nat.pow_one];omega) (yA _)))) Q7.o HDz.o (by decide))
  exact⟨160,#[.agg (zD SA SC S6 S8 S9 SB S5 S7),.agg (zD Co Cq Cd Cm Cn Cp Cc Cl)],by go_simp,hC⟩
 rintro _ ⟨Sy,S4,Ss,Sw,Sx,Sz,Sr,Sv,rfl⟩
 simp only[Act.put,aJ,aI,aH]
 refine ae 1 (by kernel_rfl) (by rfl) (by decide) ?_
 simp only[aU,aT,aW,aX]
 repeat (go_big_quiet_step (fail))
 refine YH ?_
 refine Zc ?_
 intro w8 aM hF
 have qvA:ExactAt w8 (.agg (zD Sy S4 Ss Sw Sx Sz Sr Sv)) ((iz b i-Zx b (i+1)*((sr-sq:Int):Rat)) / bH b i):=hF 204
 rw[← HMs.o] at qvA
 have qx7:=zh qvA
 have C8:=zh (MA.o.grow aM)
 obtain⟨_,_,_,_,_,_,_,_,o0,o1,o2,o3,-⟩:=C8.o.o.read (i:=i) (by omega)
 have lF:=C8.o.o.frozen (i*4)
 have lE:=C8.o.o.frozen (i*4+1)
 have lD:=C8.o.o.frozen (i*4+2)
 have lC:=C8.o.o.frozen (i*4+3)
 clear hF qvA aM MA aG pY pX pW pV my FN Eh FM vV BW FL FK FJ FI JO
 go_wp2_with fail
 have Oh:=zh (C8.o.putO (i:=i) (by omega) qx7.o)
 rw[Mu b h0] at Oh
 generalize ((((w8.setCell ⟨go,i*4,none⟩ (.bool Sy)).setCell ⟨go,i*4+1,none⟩ (.slice S4 Ss Sw)).setCell ⟨go,i*4+2,none⟩ (.bool Sx)).setCell ⟨go,i*4+3,none⟩ (.slice Sz Sr Sv))=Mw at *
 clear C8 qx7 o0 o1 o2 o3 lF lE lD lC
 go_roundw
 case rel=>exact⟨i-1,by omega,by congr 1;omega,Oh⟩
 simp[intOf];omega
end Go.Proofs.YtfhmbechennkbaaGreatDoor
