/- L -/
import Derived.Test.YtmmhehgajkaniaaGreatDoorZ27
namespace Go.Proofs.YtmmhehgajkaniaaGreatDoor
set_option maxRecDepth 100000
set_option maxHeartbeats 40000000
open Go.RowKit Go.Shelf
def ZU (b:BeamT) (w:World) (e:Ending) (w':World):Prop:=Below w.heap.size w w'∧∃v,e=.returned v∧EqsAt w' v (cd b) 280000
def AL (b:BeamT) (i s:Nat):Rat:=if s=0 then Ep b i else if s=1 then I8 b i else N5 b i
theorem Ei (v:Value) (b:BeamT) (w:World) (hv:BeamAt w w.heap.size v b) (hb:BeamOk b) (ht:bN b=true) (hT:∀(u:Value) (w1:World),BeamAt w1 w1.heap.size u b→Calls Tryz.prog 205 #[u] w1 (TurnedPost b w1)) :
  Calls Tryz.prog 102 #[v] w (ZU b w):=by
 have BR:=hv;obtain⟨As,cs,Al,cl,rfl,hS,hL⟩:=hv;obtain⟨_,_,e,_,jJ,u7⟩:=hS.open_;injection e with e1 _ e2;subst e1 e2;obtain⟨_,_,e,_,eG,pZ⟩:=hL.open_;injection e with e1 _ e2;subst e1 e2;have h1:=hb.sup1;have h4:=hb.sup 0 h1.1;unfold maxLen at jJ eG;obtain⟨bs,os,rfl,gg,By⟩:=u7 0 h1.1;have np:Y0 (∀j,j<b.sup.length→w.cell? ⟨bs,os+j,none⟩=some (.int .i64 (ah b j))):=fun j hj=>by
  have h:=By j hj;unfold ah;rw[yN,yM hj];exact h
 have zQ:=zh pZ;have Hb:=zh hb;have OZ:=zh ht;have HT:=zh hT;obtain⟨h51,h52⟩:=hb.len;obtain⟨Zb,h32⟩:=hb.even;have h2:=hb.loads1;have bp:=zh ((yB _ w).alloc (yA _) (.cells (zC b (some ⟨bs,os,none⟩) cs Al cl) 43));have HV:=zh (BR.grow bp.o);have cP:=zh (Blk.new w 43 (zC b (some ⟨bs,os,none⟩) cs Al cl));have s0:(0:Int)<(b.sup.length:Int):=by omega
 obtain⟨s3,s1⟩:=h1;clear u7 pZ hb hS hL hT BR h4 By ht;go_enter Tryz.func102,Tryz.ntmps102;go_upto_region 1 with fail;generalize w.alloc (.cells (zC b (some ⟨bs,os,none⟩) cs Al cl) 43)=W1 at*;obtain⟨y0,y1,y2,y3,y4⟩:=cP.o.c5;go_wp2_with fail;refine (Ns _ b W1 HV.o Hb.o OZ.o HT.o).mono ?_;rintro e w3 ⟨bM,gm,rfl,kn⟩;have HQ:Y0 (RcQ w w3 b (zC b (some ⟨bs,os,none⟩) cs Al cl) gm w3.heap.size (.slice none 0 0) 0):=⟨cP.o.below bM cP.o.lt,kn,OutQ.nil _ _ _ _,bp.o.trans (bM.mono bp.o.size),kn.lt,yK cP.o.lt bM.size,yA _⟩
 clear y0 y1 y2 y3 y4 bM kn cP bp HV;generalize w3.heap.size=Bo at*;go_wp2_with fail;go_loopg [6,7] b.sup.length (fun gk vo ix wr=>∃(i:Nat) (Ao:Option Addr) (co:Nat),gk+i=b.sup.length∧ix=.int .i64 i∧vo=.slice Ao i co∧Y0 (RcQ w wr b (zC b (some ⟨bs,os,none⟩) cs Al cl) gm Bo (.slice Ao i co) i))
 case atStart=>exact⟨0,none,0,rfl,rfl,rfl,HQ⟩
 clear HQ;obtain⟨i,Ao,co,hgk,rfl,rfl,HQ⟩:=hrel;have i0:(0:Int)≤(i:Int):=yE _;by_cases ff:i<b.sup.length
 ·skip
  have i1:(i:Int)<(b.sup.length:Int):=by omega
  have Hgk:=zh hgk;clear hgk;go_wp2_with fail;refine (wM wr).mono ?_;rintro e w2 ⟨v2,rfl,aU,zO⟩;obtain⟨Ig,Ii,Ia,Ic,Ie,Ih,H8,Ib,_,_,rfl,-⟩:=bS zO;have HI:=zh (RcI.start (HQ.o.grow aU) zO);have HH:Y0 (az b (qN b i) 0 0=0):=rfl;rw[←HH.o] at HI;clear zO aU HQ HH;go_upto_region 10 with fail;generalize w2.alloc (.cells (zD Ig Ii Ia Ic Ie Ih H8 Ib) 193)=W2 at*;generalize w2.heap.size=g8 at*;have HI0:Y0 (RcI w W2 b (zC b (some ⟨bs,os,none⟩) cs Al cl) gm Bo (.slice Ao i co) i g8 (az b (qN b i) 0 0) (30+31*0)):=HI
  clear HI;go_loopg [9] b.loads.length (fun hk kx wr=>∃k:Nat,hk+k=b.loads.length∧kx=.int .i64 k∧Y0 (RcI w wr b (zC b (some ⟨bs,os,none⟩) cs Al cl) gm Bo (.slice Ao i co) i g8 (az b (qN b i) 0 k) (30+31*k)))
  case atStart=>exact⟨0,rfl,rfl,HI0⟩
  clear HI0;obtain⟨k,hgh,rfl,HI⟩:=hrel;have k0:(0:Int)≤(k:Int):=yE _;by_cases ay:k<b.loads.length
  ·skip
   have k1:(k:Int)<(b.loads.length:Int):=by omega
   have Hgh:=zh hgh;clear hgh;obtain⟨bl,ol,rfl,ao,eG⟩:=zQ.o k ay;obtain⟨cB,dc⟩:=eG k ay;have Hx2:Y0 (w.cell? ⟨bl,ol+k*2+1,none⟩=some (.int .i64 b.loads[k].wt)):=dc;have cB:=(HI.o.st.bel.cell (p:=⟨bl,ol+k*2,none⟩) ao).trans cB;have dc:=(HI.o.st.bel.cell (p:=⟨bl,ol+k*2+1,none⟩) ao).trans dc;have z0:=(HI.o.st.bel.cell (p:=⟨bs,os+0,none⟩) gg).trans (np.o 0 (by omega));have z1:=(HI.o.st.bel.cell (p:=⟨bs,os+i,none⟩) gg).trans (np.o i ff)
   have z2:=(HI.o.st.bel.cell (p:=⟨bs,os+(b.sup.length-1),none⟩) gg).trans (np.o (b.sup.length-1) (by omega));rw[Nat.add_zero] at z0;obtain⟨p1,p2,p3,p4⟩:=Hb.o.loads _ (yV ay);have HOn:=zh (fun y=>Fv (b:=b) (f:=qN b i) (s:=0) (y:=y) ay);have gM:=zh (Bg (b:=b) (f:=qN b i) (s:=0) ay);have HEs:=zh (V1 b i b.loads[k]);have Ph:=zh (V3 b i b.loads[k]);have FF:i+1=b.sup.length→ah b (b.sup.length-1)=ah b i:=fun h=>by rw[←h];rfl
   have rV:i=0→ah b 0=ah b i:=fun h=>by rw[h]
   clear eG;generalize b.loads[k]=x at*;obtain⟨pos,wt⟩:=x;simp only at cB dc p1 p2 p3 p4 HEs Ph Hx2;generalize hsf:ah b 0=sf at*;generalize hsq:ah b i=sq at*;generalize WZ:ah b (b.sup.length-1)=sl at*;have j0:(0:Int)≤(b.sup.length:Int)-1:=by omega
   have j1:(b.sup.length:Int)-1<(b.sup.length:Int):=by omega
   have j2:((b.sup.length:Int)-1).toNat=b.sup.length-1:=by omega
   have j5:IntKind.i64.wrap ((b.sup.length:Int)-1)=(b.sup.length:Int)-1:=yF _ (by omega);have c3:=HI.o.st.bm.cell 3;simp only[aG,aH,aD] at c3;go_upto_region 13 with fail;go_cut [75] from 44 to 75 (fun s wx=>s=.bool (decide (pos=sq∨(i=0∧pos<sf)∨(i+1=b.sup.length∧sq<pos)))∧wx=wr)
   case first=>
    by_cases t1:pos=sq
    ·have e1:(pos==sq)=true:=beq_iff_eq.2 t1;have e9:decide (pos=sq∨(i=0∧pos<sf)∨(i+1=b.sup.length∧sq<pos))=true:=yD (.inl t1);have E9:=zh e9;clear e9 t1;go_wp2_with fail;go_meet;exact⟨congrArg Value.bool E9.o.symm,rfl⟩
    have e1:(pos==sq)=false:=zb t1;by_cases t2:i=0
    ·have e2:((i:Int)==0)=true:=beq_iff_eq.2 (by omega);by_cases t3:pos<sf
     ·have e3:decide (pos<sf)=true:=yD t3;have E9:Y0 (decide (pos=sq∨(i=0∧pos<sf)∨(i+1=b.sup.length∧sq<pos))=true):=yD (.inr (.inl ⟨t2,t3⟩));clear t1 t2 t3;go_wp2_with fail;go_meet;exact⟨congrArg Value.bool E9.o.symm,rfl⟩
     have e3:decide (pos<sf)=false:=yC t3;by_cases t4:i+1=b.sup.length
     ·have e4:((i:Int)==(b.sup.length:Int)-1)=true:=beq_iff_eq.2 (by omega);have t5:sl<pos:=by have:=FF t4;have:=rV t2;omega
      have e5:decide (sl<pos)=true:=yD t5;have E9:Y0 (decide (pos=sq∨(i=0∧pos<sf)∨(i+1=b.sup.length∧sq<pos))=true):=yD (.inr (.inr ⟨t4,by have:=FF t4;omega⟩));clear t1 t2 t3 t4 t5 FF rV;go_wp2_with fail;go_meet;exact⟨congrArg Value.bool E9.o.symm,rfl⟩
     have e4:((i:Int)==(b.sup.length:Int)-1)=false:=zb (by omega);have E9:Y0 (decide (pos=sq∨(i=0∧pos<sf)∨(i+1=b.sup.length∧sq<pos))=false):=yC (fun h=>by rcases h with h|h|h <;> omega);clear t1 t2 t3 t4 FF rV;go_wp2_with fail;go_meet;exact⟨congrArg Value.bool E9.o.symm,rfl⟩
    have e2:((i:Int)==0)=false:=zb (by omega);by_cases t4:i+1=b.sup.length
    ·have e4:((i:Int)==(b.sup.length:Int)-1)=true:=beq_iff_eq.2 (by omega);by_cases t5:sl<pos
     ·have e5:decide (sl<pos)=true:=yD t5;have E9:Y0 (decide (pos=sq∨(i=0∧pos<sf)∨(i+1=b.sup.length∧sq<pos))=true):=yD (.inr (.inr ⟨t4,by have:=FF t4;omega⟩));clear t1 t2 t4 t5 FF rV;go_wp2_with fail;go_meet;exact⟨congrArg Value.bool E9.o.symm,rfl⟩
     have e5:decide (sl<pos)=false:=yC t5;have E9:Y0 (decide (pos=sq∨(i=0∧pos<sf)∨(i+1=b.sup.length∧sq<pos))=false):=yC (fun h=>by have:=FF t4;rcases h with h|h|h <;> omega);clear t1 t2 t4 t5 FF rV;go_wp2_with fail;go_meet;exact⟨congrArg Value.bool E9.o.symm,rfl⟩
    have e4:((i:Int)==(b.sup.length:Int)-1)=false:=zb (by omega);have E9:Y0 (decide (pos=sq∨(i=0∧pos<sf)∨(i+1=b.sup.length∧sq<pos))=false):=yC (fun h=>by rcases h with h|h|h <;> omega);clear t1 t2 t4 FF rV;go_wp2_with fail;go_meet;exact⟨congrArg Value.bool E9.o.symm,rfl⟩
   obtain⟨rfl,rfl⟩:=hcut;clear z0 z1 z2 FF rV c3;by_cases hE:pos=sq∨(i=0∧pos<sf)∨(i+1=b.sup.length∧sq<pos)
   ·rw[yD hE];have Au:=zh (HOn.o _ (HEs.o hE));have kZ:wt.natAbs≤1152921504606846976:=by omega
    clear hE HOn gM HEs Ph;obtain⟨mK,mM,mC,mI,mJ,mL,mB,mH,hB,hE⟩:=HI.o.sum;obtain⟨y0,y1,y2,y3⟩:=hB.c4;have HE:=zh hE;clear hB hE;have c3:=HI.o.st.bm.cell 3;simp only[aG,aH,aD] at c3;go_upto_region 14 with fail;have zL:=YL y0;have zK:=YL y1;have AE:=YL y2;have AB:=YL y3;have DU:=YL c3;have qjZ:=YL dc;clear y0 y1 y2 y3 c3 dc;refine af 10 (fun jx=>if jx=7 then some (gI [wt]) else if jx=8 then some (jU (Zu 1 [wt]) 30) else if jx=9 then some (jU (az b (qN b i) 0 k+Zu 1 [wt]) (30+31*(k+1))) else none) (by kernel_rfl) (by kernel_rfl) ?_
    simp only[aM,aP,aN,aO];refine zw 7 ?_;simp only[aM,aP,aN,aO]
    repeat (go_big_quiet_step (fail))
    refine YE ?_;refine aV rfl rfl (fun w1 ak _=>fG (T:=3) (l:=[wt]) (yU rfl) (by go_simp)) ?_;rintro _ ⟨g83,rfl⟩;simp only[Act.put,aC,aB,aA];refine ae rfl rfl ?_ ?_
    ·intro w1 ak hk;have h83:bg w1 w1.heap.size (.slice (some ⟨g83,0,none⟩) 1 1) [wt]:=hk 83 zk;have hC:=gj 1 _ [wt] w1 h83 (yU rfl) (Ea kZ) (by decide) (by decide);exact zc (Zg hC)
    rintro _ ⟨qkL,qkN,qkH,qkJ,qkK,qkM,qkG,qkI,rfl⟩;simp only[Act.put,aC,aB,aA];refine ae rfl rfl ?_ ?_
    ·intro w1 ak hk;have h84:ExqAt w1 w1.heap.size (.agg (zD qkL qkN qkH qkJ qkK qkM qkG qkI)) (Zu 1 [wt]) 30:=hk 84 zk;have hC:=iX _ _ _ _ (30+31*k) 30 w1 (HE.o.grow ak) h84 (by omega);exact zc (Zg hC)
    rintro _ ⟨QQ,QS,QM,QO,QP,QR,QL,QN,rfl⟩;simp only[Act.put,aC,aB,aA];refine Zc ?_;intro w8 aJ hF;have kD:ExqAt w8 w8.heap.size (.agg (zD QQ QS QM QO QP QR QL QN)) (az b (qN b i) 0 k+Zu 1 [wt]) (30+31*(k+1)):=hF 85;have HG:=HI.o.grow aJ;obtain⟨_,_,_,_,_,_,_,_,eb,-⟩:=HG.sum;have nQ:=zh (HG.put kD);obtain⟨q0,q1,q2,q3⟩:=eb.c4;have CQ:=eb.frozen (0);have CP:=eb.frozen (1);have CO:=eb.frozen (2);have CN:=eb.frozen (3)
    clear hF kD eb HG aJ HE HI zL zK AE AB DU qjZ;rw[←Au.o] at nQ;go_wp2_with fail;clear q0 q1 q2 q3 CQ CP CO CN Au;go_roundg (b.loads.length-(k+1))
    case rel=>exact⟨k+1,by omega,by go_num,nQ⟩
    have:=Hgh.o;omega
   rw[yC hE];have Au:=zh (gM.o (Ph.o hE));have nQ:Y0 (RcI w wc b (zC b (some ⟨bs,os,none⟩) cs (some ⟨bl,ol,none⟩) cl) gm Bo (.slice Ao i co) i g8 (az b (qN b i) 0 (k+1)) (30+31*(k+1))):=by
    rw[Au.o];exact HI.o.more (by omega)
   clear hE HOn gM HEs Ph HI Au;go_wp2_with fail;go_roundg (b.loads.length-(k+1))
   case rel=>exact⟨k+1,by omega,by go_num,nQ⟩
   have:=Hgh.o;omega
  skip
  obtain rfl:k=b.loads.length:=by omega
  have Dw:Y0 (RcI w wr b (zC b (some ⟨bs,os,none⟩) cs Al cl) gm Bo (.slice Ao i co) i g8 (Q9 b i) 1270):=HI.o.more (by omega);have c3:=Dw.o.st.bm.cell 3;simp only[aG,aH,aD] at c3;clear HI;go_upto_if 87 with fail;clear c3;go_cut [8] from 87 to 96 (fun s8 wx=>s8=.pointer (some ⟨g8,0,none⟩)∧Y0 (RcI w wx b (zC b (some ⟨bs,os,none⟩) cs Al cl) gm Bo (.slice Ao i co) i g8 (GM b i) 1301))
  case first=>
   by_cases t0:i=0
   ·have e0:((i:Int)==0)=true:=beq_iff_eq.2 (by omega);have MM:Y0 (Q9 b i+Zu 1000 [b.even,ah b 0]=GM b i):=by unfold Y0 GM;rw[if_pos t0]
    have z0:=(Dw.o.st.bel.cell (p:=⟨bs,os+0,none⟩) gg).trans (np.o 0 (by omega));rw[Nat.add_zero] at z0;have t4:=Hb.o.sup 0 (by omega);clear t0;generalize ah b 0=sf at*;have kZ:b.even.natAbs≤1152921504606846976:=by omega
    have jT:sf.natAbs≤1152921504606846976:=by omega
    obtain⟨mK,mM,mC,mI,mJ,mL,mB,mH,hB,hE⟩:=Dw.o.sum;obtain⟨y0,y1,y2,y3⟩:=hB.c4;have HE:=zh hE;clear hB hE;have c4:=Dw.o.st.bm.cell 4;simp only[aG,aH,aD] at c4;go_upto_region 16 with fail;have zL:=YL y0;have zK:=YL y1;have AE:=YL y2;have AB:=YL y3;have uc4:=YL c4;have WW:=YL z0;clear y0 y1 y2 y3 c4 z0;refine af 9 (fun jx=>if jx=6 then some (gI [b.even,sf]) else if jx=7 then some (jU (Zu 1000 [b.even,sf]) 30) else if jx=8 then some (jU (Q9 b i+Zu 1000 [b.even,sf]) 1301) else none) (by kernel_rfl) (by kernel_rfl) ?_
    simp only[aM,aP,aN,aO];refine zw 6 ?_;simp only[aM,aP,aN,aO]
    repeat (go_big_quiet_step (fail))
    refine YE ?_;refine aV rfl rfl (fun w1 ak _=>fG (T:=3) (l:=[b.even,sf]) (yU rfl) (by go_simp)) ?_;rintro _ ⟨g94,rfl⟩;simp only[Act.put,aC,aB,aA];refine ae rfl rfl ?_ ?_
    ·intro w1 ak hk;have h94:bg w1 w1.heap.size (.slice (some ⟨g94,0,none⟩) 2 2) [b.even,sf]:=hk 94 zk;have hC:=gj 1000 _ [b.even,sf] w1 h94 (yU rfl) (AI kZ jT) (by decide) (by decide);exact zc (Zg hC)
    rintro _ ⟨qkv,qkx,qkr,qkt,qku,qkw,qkq,qks,rfl⟩;simp only[Act.put,aC,aB,aA];refine ae rfl rfl ?_ ?_
    ·intro w1 ak hk;have h95:ExqAt w1 w1.heap.size (.agg (zD qkv qkx qkr qkt qku qkw qkq qks)) (Zu 1000 [b.even,sf]) 30:=hk 95 zk;have hC:=iX _ _ _ _ 1270 30 w1 (HE.o.grow ak) h95 (by omega);exact zc (Zg hC)
    rintro _ ⟨qkn,qkp,qkj,qkl,qkm,qko,qki,qkk,rfl⟩;simp only[Act.put,aC,aB,aA];refine Zc ?_;intro w8 aJ hF;have kD:ExqAt w8 w8.heap.size (.agg (zD qkn qkp qkj qkl qkm qko qki qkk)) (Q9 b i+Zu 1000 [b.even,sf]) 1301:=hF 96;have HG:=Dw.o.grow aJ;obtain⟨_,_,_,_,_,_,_,_,eb,-⟩:=HG.sum;have MP:=zh (HG.put kD);obtain⟨q0,q1,q2,q3⟩:=eb.c4;have CQ:=eb.frozen (0);have CP:=eb.frozen (1);have CO:=eb.frozen (2)
    have CN:=eb.frozen (3);clear hF kD eb HG aJ HE Dw zL zK AE AB uc4 WW;rw[MM.o] at MP;go_wp2_with fail;go_meet;exact⟨rfl,MP⟩
   have e0:((i:Int)==0)=false:=zb (by omega);have MP:Y0 (RcI w wr b (zC b (some ⟨bs,os,none⟩) cs Al cl) gm Bo (.slice Ao i co) i g8 (GM b i) 1301):=by
    have e:Q9 b i=GM b i:=by unfold GM;rw[if_neg t0]
    rw[←e];exact Dw.o.more (by decide)
   clear Dw t0;go_wp2_with fail;go_meet;exact⟨rfl,MP⟩
  obtain⟨rfl,MP⟩:=hcut;clear Dw;have j0:(0:Int)≤(b.sup.length:Int)-1:=by omega
  have j1:(b.sup.length:Int)-1<(b.sup.length:Int):=by omega
  have j2:((b.sup.length:Int)-1).toNat=b.sup.length-1:=by omega
  have j5:IntKind.i64.wrap ((b.sup.length:Int)-1)=(b.sup.length:Int)-1:=yF _ (by omega);go_upto_if 100 with fail;go_cut [8] from 100 to 114 (fun s8 wx=>s8=.pointer (some ⟨g8,0,none⟩)∧Y0 (RcI w wx b (zC b (some ⟨bs,os,none⟩) cs Al cl) gm Bo (.slice Ao i co) i g8 (Ep b i) (1332)))
  case first=>
   by_cases t0:i+1=b.sup.length
   ·have e0:((i:Int)==(b.sup.length:Int)-1)=true:=beq_iff_eq.2 (by omega);have MM:Y0 (GM b i+Zu 1000 [b.even,b.len-ah b i]=Ep b i):=by unfold Y0 Ep;rw[if_pos t0]
    have z0:=(MP.o.st.bel.cell (p:=⟨bs,os+(b.sup.length-1),none⟩) gg).trans (np.o (b.sup.length-1) (by omega));have t4:=Hb.o.sup i ff;have ei:b.sup.length-1=i:=by omega
    rw[show ah b (b.sup.length-1)=ah b i by rw[ei]] at z0;clear t0 ei;generalize ah b i=sf at*;have kZ:b.even.natAbs≤1152921504606846976:=by omega
    have jT:(b.len-sf).natAbs≤1152921504606846976:=by omega
    have v7:IntKind.i64.wrap (b.len-sf)=b.len-sf:=yF _ (by omega);obtain⟨mK,mM,mC,mI,mJ,mL,mB,mH,hB,hE⟩:=MP.o.sum;obtain⟨y0,y1,y2,y3⟩:=hB.c4;have HE:=zh hE;clear hB hE;have c1:=MP.o.st.bm.cell 1;have c4:=MP.o.st.bm.cell 4;simp only[aG,aH,aD] at c1 c4;go_upto_region 18 with fail;have zL:=YL y0;have zK:=YL y1;have AE:=YL y2;have AB:=YL y3;have Ip:=YL c1;have uc4:=YL c4;have WW:=YL z0;clear y0 y1 y2 y3 c1 c4 z0
    refine af 14 (fun jx=>if jx=11 then some (gI [b.even,b.len-sf]) else if jx=12 then some (jU (Zu 1000 [b.even,b.len-sf]) 30) else if jx=13 then some (jU (GM b i+Zu 1000 [b.even,b.len-sf]) (1332)) else none) (by kernel_rfl) (by kernel_rfl) ?_;simp only[aM,aP,aN,aO];refine zw 11 ?_;simp only[aM,aP,aN,aO]
    repeat (go_big_quiet_step (fail))
    refine YE ?_;refine aV rfl rfl (fun w1 ak _=>fG (T:=3) (l:=[b.even,b.len-sf]) (yU rfl) (by go_simp)) ?_;rintro _ ⟨vvq,rfl⟩;simp only[Act.put,aC,aB,aA];refine ae rfl rfl ?_ ?_
    ·intro w1 ak hk;have vvf:bg w1 w1.heap.size (.slice (some ⟨vvq,0,none⟩) 2 2) [b.even,b.len-sf]:=hk 112 zk;have hC:=gj 1000 _ [b.even,b.len-sf] w1 vvf (yU rfl) (AI kZ jT) (by decide) (by decide);exact zc (Zg hC)
    rintro _ ⟨qvC,qvE,qvy,qvA,qvB,qvD,qvx,qvz,rfl⟩;simp only[Act.put,aC,aB,aA];refine ae rfl rfl ?_ ?_
    ·intro w1 ak hk;have vwv:ExqAt w1 w1.heap.size (.agg (zD qvC qvE qvy qvA qvB qvD qvx qvz)) (Zu 1000 [b.even,b.len-sf]) 30:=hk 113 zk;have hC:=iX _ _ _ _ 1301 30 w1 (HE.o.grow ak) vwv (by omega);exact zc (Zg hC)
    rintro _ ⟨J4,J6,J0,J2,J3,J5,Jz,J1,rfl⟩;simp only[Act.put,aC,aB,aA];refine Zc ?_;intro w8 aJ hF;have kD:ExqAt w8 w8.heap.size (.agg (zD J4 J6 J0 J2 J3 J5 Jz J1)) (GM b i+Zu 1000 [b.even,b.len-sf]) (1332):=hF 114;have HG:=MP.o.grow aJ;obtain⟨_,_,_,_,_,_,_,_,eb,-⟩:=HG.sum;have HI5:=zh (HG.put kD);obtain⟨q0,q1,q2,q3⟩:=eb.c4;have CQ:=eb.frozen (0);have CP:=eb.frozen (1);have CO:=eb.frozen (2);have CN:=eb.frozen (3)
    clear hF kD eb HG aJ HE MP zL zK AE AB Ip uc4 WW;rw[MM.o] at HI5;go_wp2_with fail;go_meet;exact⟨rfl,HI5⟩
   have e0:((i:Int)==(b.sup.length:Int)-1)=false:=zb (by omega);have HI5:Y0 (RcI w wc b (zC b (some ⟨bs,os,none⟩) cs Al cl) gm Bo (.slice Ao i co) i g8 (Ep b i) (1332)):=by
    have e:GM b i=Ep b i:=by unfold Ep;rw[if_neg t0]
    rw[←e];exact MP.o.more (by decide)
   clear MP t0;go_wp2_with fail;go_meet;exact⟨rfl,HI5⟩
  obtain⟨rfl,HI5⟩:=hcut;clear MP j0 j1 j2 j5;have vn:Y0 (RcI w wc b (zC b (some ⟨bs,os,none⟩) cs Al cl) gm Bo (.slice Ao i co) i g8 (AL b i 0) (1332+136363*0)):=HI5;clear HI5;go_wp2_with fail;go_loopw [11] (fun kx wr=>∃s:Nat,s≤2∧kx=.int .i64 s∧Y0 (RcI w wr b (zC b (some ⟨bs,os,none⟩) cs Al cl) gm Bo (.slice Ao i co) i g8 (AL b i s) (1332+136363*s))) (fun kx _=>2-(intOf kx).toNat)
  case atStart=>exact⟨0,by decide,rfl,vn⟩
  clear vn;obtain⟨s,hs,rfl,HI⟩:=hrel;rcases s with _|_|s;rotate_right 1
  ·obtain rfl:s=0:=by omega
   have es:((0+1+1:Nat):Int)=2:=rfl;rw[es];have nQ:Y0 (RcI w wr b (zC b (some ⟨bs,os,none⟩) cs Al cl) gm Bo (.slice Ao i co) i g8 (N5 b i) (274058)):=HI.o;clear es hs HI;obtain⟨mK,mM,mC,mI,mJ,mL,mB,mH,hB,hE⟩:=nQ.o.sum;obtain⟨y0,y1,y2,y3⟩:=hB.c4;have HE:=zh hE;clear hB hE;go_wp2_with fail;refine (Qt _ (N5 b i) 274058 wr HE.o (by decide)).mono ?_;rintro e w9 ⟨v9,rfl,jz,hE9⟩;obtain⟨Ig,Ii,Ia,Ic,Ie,Ih,H8,Ib,_,_,rfl,-⟩:=bS hE9
   obtain⟨iE,Kn,qI,qH,tz⟩:=info_parts F8;have lE:Below w9.heap.size w9 (w9.alloc (.cells (zD Ig Ii Ia Ic Ie Ih H8 Ib) 193)):=(yB _ _).alloc (yA _) _;have HQ9:=zh ((nQ.o.st.grow jz).grow lE);have HE9:=zh ((hE9.more (K':=280000) (by decide)).grow lE);obtain⟨es,h1,h2,h3⟩:=HQ9.o.o;have H1:=zh h1;have WA:=zh h2;have H3:=zh h3;have rU:=World.news_of_block (Blk.new w9 193 (zD Ig Ii Ia Ic Ie Ih H8 Ib));have my:=zh rU
   have hbl:=HQ9.o.bl;clear h1 h2 h3 rU hE9 jz lE nQ HE y0 y1 y2 y3;go_wp2_with (at_builtin;refine wpList_append_own _ rfl _ _ 143 rfl Bo 193 iE (.agg (zD false none 0 0 false none 0 0)) 4 64 Tryz.underlying143 Kn qI qH tz rfl (by decide) _ _ _ rfl WA.o ⟨w9.heap.size,0,none⟩ 1 1 [.bool Ig,.slice Ii Ia Ic,.bool Ie,.slice Ih H8 Ib] rfl rfl my.o (by simp[Value.oneCell']) (by unfold maxLen;omega) (by omega) hbl ?_;intro v' w1 fT eI _;obtain⟨g',tL,rfl⟩:=ownsRow_succ fT)
   have vvA:=zh (HQ9.o.push H1.o WA.o H3.o HE9.o eI fT);clear fT eI WA H1 H3 HE9 HQ9 my hbl Kn qI qH tz;go_roundg (b.sup.length-(i+1))
   case rel=>exact⟨i+1,_,_,by omega,by go_num,rfl,vvA⟩
   have:=Hgk.o;omega
  case' zero=>
   by_cases jB:0<i
   case neg=>
    have es:((0:Nat):Int)=0:=rfl;rw[es];clear es hs;have nQ:Y0 (RcI w wr b (zC b (some ⟨bs,os,none⟩) cs Al cl) gm Bo (.slice Ao i co) i g8 (AL b i 1) (1332+136363*1)):=by
     have e:Ep b i=I8 b i:=by unfold I8;rw[if_neg jB]
     exact (HI.o.is (q':=AL b i 1) e).more (by decide)
    clear HI;have v1:IntKind.i64.wrap ((i:Int)-1)=-1:=(yF _ (by omega)).trans (by omega);have d1:decide ((-1:Int)<0)=true:=by decide
    clear jB;go_wp2_with fail;go_roundw
    case rel=>exact⟨1,by decide,rfl,nQ⟩
    simp[intOf]
   have es:((0:Nat):Int)=0:=rfl;rw[es];clear es hs;obtain⟨K,hK⟩:∃K:Nat,K=1332:=⟨_,rfl⟩;obtain⟨q,hq⟩:∃q,q=Ep b i:=⟨_,rfl⟩;obtain⟨q9,hq9⟩:∃q9,q9=I8 b i:=⟨_,rfl⟩;obtain⟨left,U2⟩:∃l:Bool,l=false:=⟨_,rfl⟩;have HI0:Y0 (RcI w wr b (zC b (some ⟨bs,os,none⟩) cs Al cl) gm Bo (.slice Ao i co) i g8 q K):=by rw[hK,hq];exact HI
   obtain⟨p,hp⟩:∃p,p+1=i:=⟨i-1,by omega⟩;have v1:IntKind.i64.wrap ((i:Int)-1)=(p:Int):=(yF _ (by omega)).trans (by omega);have t1:=Hb.o.inc p (by omega);have hip:i-1=p:=by omega
   rw[hp] at t1;have hRe:Dk b (ah b p) (ah b i) left (Zx b i) (Zx b p) q=q9:=by rw[hq,hq9,U2];unfold I8;rw[if_pos jB,hip]
   obtain⟨lo,Br⟩:=zo (ah b p);obtain⟨hi,hhi⟩:=zo (ah b i);have Pu:ah b i=hi:=hhi;have hsk:ah b p=lo:=Br;have HSd:Y0 (∀pos d,(if left=true then hi-pos else pos-lo)=d→lo<pos→pos<hi → -1≤lo→hi≤1048576→IntKind.i64.wrap (pos-lo)=d∧decide (d<0)=false∧IntKind.i64.wrap d=d∧IntKind.i64.wrap (0 - -d)=d∧1≤d∧d≤1048577):=fun pos d h0 h1 h2 h3 h4=>by
    rw[U2] at h0;rw[if_neg (by decide)] at h0;exact⟨(yF _ (by omega)).trans (by omega),yC (by omega),yF _ (by omega),(yF _ (by omega)).trans (by omega),by omega,by omega⟩
   have hKb:K≤137695:=by omega
   clear HI hip U2 Br hhi hq
  case' succ.zero=>
   by_cases jB:i+1<b.sup.length
   case neg=>
    have es:((0+1:Nat):Int)=1:=rfl;rw[es];clear es hs;have nQ:Y0 (RcI w wr b (zC b (some ⟨bs,os,none⟩) cs Al cl) gm Bo (.slice Ao i co) i g8 (AL b i 2) (1332+136363*2)):=by
     have e:I8 b i=N5 b i:=by unfold N5;rw[if_neg jB]
     exact (HI.o.is (q':=AL b i 2) e).more (by decide)
    clear HI;have v0:IntKind.i64.wrap ((i:Int)-1)=(i:Int)-1:=yF _ (by omega);have v1:IntKind.i64.wrap ((i:Int)+1)=(b.sup.length:Int):=(yF _ (by omega)).trans (by omega);have d1:decide ((b.sup.length:Int)<0)=false:=yC (by omega);clear jB;go_wp2_with fail;go_roundw
    case rel=>exact⟨2,by decide,rfl,nQ⟩
    simp[intOf]
   have es:((0+1:Nat):Int)=1:=rfl;rw[es];clear es hs;obtain⟨K,hK⟩:∃K:Nat,K=137695:=⟨_,rfl⟩;obtain⟨q,hq⟩:∃q,q=I8 b i:=⟨_,rfl⟩;obtain⟨q9,hq9⟩:∃q9,q9=N5 b i:=⟨_,rfl⟩;obtain⟨left,U2⟩:∃l:Bool,l=true:=⟨_,rfl⟩;have HI0:Y0 (RcI w wr b (zC b (some ⟨bs,os,none⟩) cs Al cl) gm Bo (.slice Ao i co) i g8 q K):=by rw[hK,hq];exact HI
   obtain⟨p,hp⟩:=zo (i+1);have v0:IntKind.i64.wrap ((i:Int)-1)=(i:Int)-1:=yF _ (by omega);have v1:IntKind.i64.wrap ((i:Int)+1)=(p:Int):=(yF _ (by omega)).trans (by omega);have t1:=Hb.o.inc i (by omega);have hip:=hp;rw[hp] at t1;have hRe:Dk b (ah b i) (ah b p) left (Zx b i) (Zx b p) q=q9:=by rw[hq,hq9,U2];unfold N5;rw[if_pos jB,hip]
   obtain⟨lo,Br⟩:=zo (ah b i);obtain⟨hi,hhi⟩:=zo (ah b p);have Pu:ah b i=lo:=Br;have hsk:ah b p=hi:=hhi;have HSd:Y0 (∀pos d,(if left=true then hi-pos else pos-lo)=d→lo<pos→pos<hi → -1≤lo→hi≤1048576→IntKind.i64.wrap (pos-hi)=-d∧decide (-d<0)=true∧IntKind.i64.wrap d=d∧IntKind.i64.wrap (0 - -d)=d∧1≤d∧d≤1048577):=fun pos d h0 h1 h2 h3 h4=>by
    rw[U2] at h0;rw[if_pos rfl] at h0;exact⟨(yF _ (by omega)).trans (by omega),yD (by omega),yF _ (by omega),(yF _ (by omega)).trans (by omega),by omega,by omega⟩
   have hKb:K≤137695:=by omega
   clear HI hip U2 Br hhi hq
  all_goals
   as_aux_lemma=>
    have hpn:p<b.sup.length:=by omega
    have z1:=(HI0.o.st.bel.cell (p:=⟨bs,os+i,none⟩) gg).trans (np.o i ff);have zj:=(HI0.o.st.bel.cell (p:=⟨bs,os+p,none⟩) gg).trans (np.o p hpn);have hzk:=np.o p hpn;rw[hsk] at hzk zj;rw[Pu] at z1;have Hzk:=zh hzk;have t2:=Hb.o.sup i ff;have t3:=Hb.o.sup p hpn;have p0:(0:Int)≤(p:Int):=yE _;have pn:(p:Int)<(b.sup.length:Int):=by omega
    have d1:decide ((p:Int)<0)=false:=yC (by omega);have d2:decide ((b.sup.length:Int)≤(p:Int))=false:=yC (by omega);have d3:decide (b.sup.length≤p)=false:=yC (by omega);have Hp:=zh hp;rw[Pu] at t1 t2 hRe;rw[hsk] at t1 t3 hRe;have sJ:=zh hRe;obtain⟨t21,t22⟩:=t2;obtain⟨t31,t32⟩:=t3;obtain⟨l,hl⟩:=zo (hi-lo);have l1:1≤l:=by omega
    obtain⟨m1,m2,m3,m4⟩:max lo hi=hi∧max hi lo=hi∧min lo hi=lo∧min hi lo=lo:=by omega
    have l2:l≤1048576:=by omega
    have v2:IntKind.i64.wrap (hi-lo)=l:=(yF _ (by omega)).trans hl;have Hl:=zh hl;clear hp jB hl Pu hsk hzk hRe;go_upto_region 26 with fail;go_quiet (fail);go_upto_region 28 with fail;generalize hdw:wr.drewN nq=W5 at*;have HI1:Y0 (RcI w W5 b (zC b (some ⟨bs,os,none⟩) cs Al cl) gm Bo (.slice Ao i co) i g8 q K):=by rw[←hdw];exact HI0.o.grow (Zf (yB _ _) _)
    clear hdw HI0 z1 zj d1 d2 d3;have kZ:b.even.natAbs≤1152921504606846976:=by omega
    have jT:l.natAbs≤1152921504606846976:=by omega
    obtain⟨mK,mM,mC,mI,mJ,mL,mB,mH,hB,hE⟩:=HI1.o.sum;obtain⟨y0,y1,y2,y3⟩:=hB.c4;have HE:=zh hE;clear hB hE;have c4:=HI1.o.st.bm.cell 4;simp only[aG,aH,aD] at c4;have zL:=YL y0;have zK:=YL y1;have AE:=YL y2;have AB:=YL y3;have uc4:=YL c4;clear y0 y1 y2 y3 c4;refine af 7 (fun jx=>if jx=4 then some (gI [b.even,l]) else if jx=5 then some (jU (Zu 2000 [b.even,l]) 30) else if jx=6 then some (jU (q+Zu 2000 [b.even,l]) (K+31)) else none) (by kernel_rfl) (by kernel_rfl) ?_
    simp only[aM,aP,aN,aO];refine zw 4 ?_;simp only[aM,aP,aN,aO]
    repeat (go_big_quiet_step (fail))
    refine YE ?_;refine aV rfl rfl (fun w1 ak _=>fG (T:=3) (l:=[b.even,l]) (yU rfl) (by go_simp)) ?_;rintro _ ⟨vvl,rfl⟩;simp only[Act.put,aC,aB,aA];refine ae rfl rfl ?_ ?_
    ·intro w1 ak hk;have Zd:bg w1 w1.heap.size (.slice (some ⟨vvl,0,none⟩) 2 2) [b.even,l]:=hk 157 zk;have hC:=gj 2000 _ [b.even,l] w1 Zd (yU rfl) (AI kZ jT) (by decide) (by decide);exact zc (Zg hC)
    rintro _ ⟨qxO,qxQ,qxK,qxM,qxN,qxP,qxJ,qxL,rfl⟩;simp only[Act.put,aC,aB,aA];refine ae rfl rfl ?_ ?_
    ·intro w1 ak hk;have vz0:ExqAt w1 w1.heap.size (.agg (zD qxO qxQ qxK qxM qxN qxP qxJ qxL)) (Zu 2000 [b.even,l]) 30:=hk 158 zk;have hC:=iX _ _ _ _ K 30 w1 (HE.o.grow ak) vz0 (by omega);exact zc (Zg hC)
    rintro _ ⟨S4,S8,Sy,S0,S3,S5,Sx,Sz,rfl⟩;simp only[Act.put,aC,aB,aA];refine Zc ?_;intro w8 aJ hF;have kD:ExqAt w8 w8.heap.size (.agg (zD S4 S8 Sy S0 S3 S5 Sx Sz)) (q+Zu 2000 [b.even,l]) (K+31):=hF 159;have HG:=HI1.o.grow aJ;obtain⟨_,_,_,_,_,_,_,_,eb,-⟩:=HG.sum;have nQ:=zh (HG.put kD);obtain⟨q0,q1,q2,q3⟩:=eb.c4;have CQ:=eb.frozen (0);have CP:=eb.frozen (1);have CO:=eb.frozen (2);have CN:=eb.frozen (3)
    clear hF kD eb HG aJ HE HI1 zL zK AE AB uc4;have HQ0:Y0 (q+Zu 2000 [b.even,l]=jo b lo hi left q 0):=by unfold Y0 jo;rw[Hl.o];rfl
    rw[HQ0.o] at nQ;clear HQ0;go_wp2_with fail;generalize (((((w8).setCell ⟨g8,0,none⟩ (.bool S4)).setCell ⟨g8,1,none⟩ (.slice S8 Sy S0)).setCell ⟨g8,2,none⟩ (.bool S3)).setCell ⟨g8,3,none⟩ (.slice S5 Sx Sz))=W6 at*;clear q0 q1 q2 q3 CQ CP CO CN;have Dw:Y0 (RcI w W6 b (zC b (some ⟨bs,os,none⟩) cs Al cl) gm Bo (.slice Ao i co) i g8 (jo b lo hi left q 0) (K+31+31*0)):=nQ;clear nQ;go_loopw [16] (fun kx wr=>∃k:Nat,k≤b.loads.length∧kx=.int .i64 k∧Y0 (RcI w wr b (zC b (some ⟨bs,os,none⟩) cs Al cl) gm Bo (.slice Ao i co) i g8 (jo b lo hi left q k) (K+31+31*k))) (fun kx _=>b.loads.length-(intOf kx).toNat)
    case atStart=>exact⟨0,yI _,rfl,Dw⟩
    clear Dw;obtain⟨k,hk,rfl,HI⟩:=hrel;have k0:(0:Int)≤(k:Int):=yE _;by_cases ay:k<b.loads.length
    ·have k1:(k:Int)<(b.loads.length:Int):=by omega
     obtain⟨bl,ol,rfl,ao,eG⟩:=zQ.o k ay;obtain⟨cB,dc⟩:=eG k ay;have cB:=(HI.o.st.bel.cell (p:=⟨bl,ol+k*2,none⟩) ao).trans cB;have dc:=(HI.o.st.bel.cell (p:=⟨bl,ol+k*2+1,none⟩) ao).trans dc;have zj:=(HI.o.st.bel.cell (p:=⟨bs,os+p,none⟩) gg).trans Hzk.o;obtain⟨p1,p2,p3,p4⟩:=Hb.o.loads _ (yV ay);have HOn:=zh (fun y=>Fv (b:=b) (f:=gp lo hi left) (s:=q+Zu 2000 [b.even,hi-lo]) (y:=y) ay);have gM:=zh (Bg (b:=b) (f:=gp lo hi left) (s:=q+Zu 2000 [b.even,hi-lo]) ay)
     have HEs:=zh (fun d=>Kg (lo:=lo) (hi:=hi) (d:=d) (left:=left) (x:=b.loads[k]));have Ph:=zh (Kh (lo:=lo) (hi:=hi) (left:=left) (x:=b.loads[k]));clear eG;generalize b.loads[k]=x at*;obtain⟨pos,wt⟩:=x;simp only at cB dc p1 p2 p3 p4 HEs Ph;have c3:=HI.o.st.bm.cell 3;simp only[aG,aH,aD] at c3;by_cases hE:lo<pos∧pos<hi
     ·obtain⟨d,hd⟩:∃d,(if left=true then hi-pos else pos-lo)=d:=⟨_,rfl⟩;obtain⟨v4,e3,v5,v6,e4,e5⟩:=HSd.o pos d hd hE.1 hE.2 (by omega) (by omega);have e1:decide (lo<pos)=true:=yD hE.1;have e2:decide (pos<hi)=true:=yD hE.2;have Au:Y0 (jo b lo hi left q (k+1)=jo b lo hi left q k+Zu l [wt,d]):=by
       have:=HOn.o _ (HEs.o d hE (by simpa using hd.symm));rw[Hl.o] at this;unfold Y0 jo;rw[Hl.o];exact this
      have C6:wt.natAbs≤1152921504606846976:=by omega
      have hs4:d.natAbs≤1152921504606846976:=by omega
      have l3:0<l:=by omega
      have l4:l≤1152921504606846976:=by omega
      clear hE hd HOn gM HEs Ph;obtain⟨mK,mM,mC,mI,mJ,mL,mB,mH,hB,hE⟩:=HI.o.sum;obtain⟨y0,y1,y2,y3⟩:=hB.c4;have HE:=zh hE;clear hB hE;go_upto_region 37 with fail;have zL:=YL y0;have zK:=YL y1;have AE:=YL y2;have AB:=YL y3;have DU:=YL c3;have qjZ:=YL dc;clear y0 y1 y2 y3 c3 dc;refine af 12 (fun jx=>if jx=8 then some (gI [wt,d]) else if jx=10 then some (jU (Zu l [wt,d]) 30) else if jx=11 then some (jU (jo b lo hi left q k+Zu l [wt,d]) (K+31+31*(k+1))) else none) (by kernel_rfl) (by kernel_rfl) ?_
      simp only[aM,aP,aN,aO];refine zw 8 ?_;simp only[aM,aP,aN,aO]
      repeat (go_big_quiet_step (fail))
      refine YE ?_;refine aV rfl rfl (fun w1 ak _=>fG (T:=3) (l:=[wt,d]) (yU rfl) (by go_simp)) ?_;rintro _ ⟨vvk,rfl⟩;simp only[Act.put,aC,aB,aA];refine zw 1 ?_;simp only[aM,aP,aN,aO]
      repeat (go_big_quiet_step (fail))
      refine YE ?_;refine ae rfl rfl ?_ ?_
      ·intro w1 ak hk;have vwq:bg w1 w1.heap.size (.slice (some ⟨vvk,0,none⟩) 2 2) [wt,d]:=hk 199 zk;have hC:=gj l _ [wt,d] w1 vwq (yU rfl) (AI C6 hs4) l3 l4;exact zc (Zg hC)
      rintro _ ⟨qwM,qwO,qwI,qwK,qwL,qwN,qwH,qwJ,rfl⟩;simp only[Act.put,aC,aB,aA];refine ae rfl rfl ?_ ?_
      ·intro w1 ak hk;have vzU:ExqAt w1 w1.heap.size (.agg (zD qwM qwO qwI qwK qwL qwN qwH qwJ)) (Zu l [wt,d]) 30:=hk 201 zk;have hC:=iX _ _ _ _ (K+31+31*k) 30 w1 (HE.o.grow ak) vzU (by omega);exact zc (Zg hC)
      rintro _ ⟨qwE,qwG,qwA,qwC,qwD,qwF,qwz,qwB,rfl⟩;simp only[Act.put,aC,aB,aA];refine Zc ?_;intro w8 aJ hF;have kD:ExqAt w8 w8.heap.size (.agg (zD qwE qwG qwA qwC qwD qwF qwz qwB)) (jo b lo hi left q k+Zu l [wt,d]) (K+31+31*(k+1)):=hF 202;have HG:=HI.o.grow aJ;obtain⟨_,_,_,_,_,_,_,_,eb,-⟩:=HG.sum;have nQ:=zh (HG.put kD);obtain⟨q0,q1,q2,q3⟩:=eb.c4;have CQ:=eb.frozen (0);have CP:=eb.frozen (1);have CO:=eb.frozen (2)
      have CN:=eb.frozen (3);clear hF kD eb HG aJ HE HI zL zK AE AB DU qjZ;rw[←Au.o] at nQ;go_wp2_with fail;clear q0 q1 q2 q3 CQ CP CO CN Au;go_roundw
      case rel=>exact⟨k+1,by omega,by go_num,nQ⟩
      simp[intOf];omega
     have Au:Y0 (jo b lo hi left q (k+1)=jo b lo hi left q k):=gM.o (Ph.o hE);have nQ:Y0 (RcI w wr b (zC b (some ⟨bs,os,none⟩) cs (some ⟨bl,ol,none⟩) cl) gm Bo (.slice Ao i co) i g8 (jo b lo hi left q (k+1)) (K+31+31*(k+1))):=by
      rw[Au.o];exact HI.o.more (by omega)
     have hc:decide (lo<pos)=false∨decide (lo<pos)=true∧decide (pos<hi)=false:=by
      by_cases h:lo<pos
      ·exact .inr ⟨yD h,yC (fun h2=>hE ⟨h,h2⟩)⟩
      exact .inl (yC h)
     clear hE HOn gM HEs Ph HI Au;rcases hc with e1|⟨e1,e2⟩
     all_goals
      go_wp2_with fail;go_roundw
      case rel=>exact⟨k+1,by omega,by go_num,nQ⟩
      simp[intOf];omega
    obtain rfl:k=b.loads.length:=by omega
    have nQ:Y0 (RcI w wr b (zC b (some ⟨bs,os,none⟩) cs Al cl) gm Bo (.slice Ao i co) i g8 (jo b lo hi left q b.loads.length) (K+31+1240)):=HI.o.more (by omega);clear HI;obtain⟨mK,mM,mC,mI,mJ,mL,mB,mH,hB,hE⟩:=nQ.o.sum;obtain⟨y0,y1,y2,y3⟩:=hB.c4;have HE:=zh hE;clear hB hE;have c3:=nQ.o.st.bm.cell 3;simp only[aG,aH,aD] at c3;obtain⟨ab1,aA1,al1,ac1,ab2,aA2,al2,ac2,a0,a1,a2,a3,aE⟩:=nQ.o.st.m.read (i:=p) hpn
    obtain⟨db1,dA1,dl1,dc1,db2,dA2,dl2,dc2,d0,d1,d2,d3,dE⟩:=nQ.o.st.m.read (i:=i) ff;have HA:=zh (aE _ rfl);have HD:=zh (dE _ rfl);have C6:(1:Int).natAbs≤1152921504606846976:=by decide
    have l3:0<l:=by omega
    have l4:l≤1152921504606846976:=by omega
    clear aE dE;go_upto_region 38 with fail;clear c3;have zL:=YL y0;have zK:=YL y1;have AE:=YL y2;have AB:=YL y3;have wE:=YL a0;have wD:=YL a1;have wC:=YL a2;have wB:=YL a3;have Qc:=YL d0;have Qb:=YL d1;have Qa:=YL d2;have PZ:=YL d3;clear y0 y1 y2 y3 a0 a1 a2 a3 d0 d1 d2 d3;refine af 15 (fun jx=>if jx=9 then some (jU (Zx b p-Zx b i) 135061) else if jx=10 then some (gI [1]) else if jx=12 then some (jU (Zu l [1]) 30) else if jx=13 then some (jU ((Zx b p-Zx b i)*Zu l [1]) 135091) else if jx=14 then some (jU (jo b lo hi left q b.loads.length+(Zx b p-Zx b i)*Zu l [1]) (K+136363)) else none) (by kernel_rfl) (by kernel_rfl) ?_
    simp only[aM,aP,aN,aO];refine zw 9 ?_;simp only[aM,aP,aN,aO]
    repeat (go_big_quiet_step (fail))
    refine YE ?_;refine ae rfl rfl ?_ ?_
    ·intro w1 ak hk;have hC:=kM _ _ _ _ 67530 67530 w1 (HA.o.grow ak) (HD.o.grow ak) (by decide);exact zc (Zg hC)
    rintro _ ⟨qww,qwy,qws,qwu,qwv,qwx,qwr,qwt,rfl⟩;simp only[Act.put,aC,aB,aA];refine aV rfl rfl (fun w1 ak _=>fG (T:=3) (l:=[1]) (yU rfl) (by go_simp)) ?_;rintro _ ⟨vvj,rfl⟩;simp only[Act.put,aC,aB,aA];refine zw 1 ?_;simp only[aM,aP,aN,aO]
    repeat (go_big_quiet_step (fail))
    refine YE ?_;refine ae rfl rfl ?_ ?_
    ·intro w1 ak hk;have vzS:bg w1 w1.heap.size (.slice (some ⟨vvj,0,none⟩) 1 1) [1]:=hk 213 zk;have hC:=gj l _ [1] w1 vzS (yU rfl) (Ea C6) l3 l4;exact zc (Zg hC)
    rintro _ ⟨qwo,qwq,qwk,qwm,qwn,qwp,qwj,qwl,rfl⟩;simp only[Act.put,aC,aB,aA];refine ae rfl rfl ?_ ?_
    ·intro w1 ak hk;have vzT:ExqAt w1 w1.heap.size (.agg (zD qww qwy qws qwu qwv qwx qwr qwt)) (Zx b p-Zx b i) 135061:=hk 212 zk;have vzR:ExqAt w1 w1.heap.size (.agg (zD qwo qwq qwk qwm qwn qwp qwj qwl)) (Zu l [1]) 30:=hk 215 zk;have hC:=rF _ _ _ _ 135061 30 w1 vzT vzR (by decide);exact zc (Zg hC)
    rintro _ ⟨qwg,qwi,qwc,qwe,qwf,qwh,qwb,qwd,rfl⟩;simp only[Act.put,aC,aB,aA];refine ae rfl rfl ?_ ?_
    ·intro w1 ak hk;have vzQ:ExqAt w1 w1.heap.size (.agg (zD qwg qwi qwc qwe qwf qwh qwb qwd)) ((Zx b p-Zx b i)*Zu l [1]) 135091:=hk 216 zk;have hC:=iX _ _ _ _ (K+31+1240) 135091 w1 (HE.o.grow ak) vzQ (by omega);exact zc (Zg hC)
    rintro _ ⟨qq8,qwa,qq4,qq6,qq7,qq9,qq3,qq5,rfl⟩;simp only[Act.put,aC,aB,aA];refine Zc ?_;intro w8 aJ hF;have kD:ExqAt w8 w8.heap.size (.agg (zD qq8 qwa qq4 qq6 qq7 qq9 qq3 qq5)) (jo b lo hi left q b.loads.length+(Zx b p-Zx b i)*Zu l [1]) (K+136363):=hF 217;have HG:=nQ.o.grow aJ;obtain⟨_,_,_,_,_,_,_,_,eb,-⟩:=HG.sum;have Dw:=zh (HG.put kD);obtain⟨q0,q1,q2,q3⟩:=eb.c4;have CQ:=eb.frozen (0);have CP:=eb.frozen (1)
    have CO:=eb.frozen (2);have CN:=eb.frozen (3);clear hF kD eb HG aJ HE nQ zL zK AE AB wE wD wC wB Qc Qb Qa PZ HA HD;have HQ1:Y0 (jo b lo hi left q b.loads.length+(Zx b p-Zx b i)*Zu l [1]=q9):=by
     have:=ZP b lo hi left (Zx b i) (Zx b p) (q);rw[Hl.o] at this;exact this.trans sJ.o
    rw[HQ1.o] at Dw;clear HQ1;go_wp2_with fail;clear q0 q1 q2 q3 CQ CP CO CN;rw[hq9,hK] at Dw;go_roundw
    case rel=>first|exact⟨1,by decide,rfl,Dw⟩|exact⟨2,by decide,rfl,Dw⟩
    simp[intOf]
 obtain rfl:i=b.sup.length:=by omega
 have HR:=zh HQ.o.o.eqs;have HBE:=zh HQ.o.bel;have HL:Y0 ((List.range b.sup.length).map (N5 b)=cd b):=List.map_congr_left fun j hj=>qj7 b Hb.o.inc j (List.mem_range.1 hj);rw[HL.o] at HR;clear HQ;go_wp2_with fail;refine YF (results_tmp rfl _ _ _) (by rfl) ?_;exact⟨HBE.o,_,rfl,HR.o⟩
theorem qqi (v:Value) (l:List Rat) (K:Nat) (w:World) (hv:EqsAt w v l K) (hK:K≤300000) (hl:l.length≤100):Calls Tryz.prog 101 #[v] w (FracsPost l w):=by
 obtain⟨A,c,rfl,fU,cM,hR⟩:=hv;unfold maxLen at cM;have HR:=zh hR;have HK:=zh hK;obtain⟨iF,Bt,oC,oB,oA⟩:=info_parts Bn;clear hR hK;go_enter Tryz.func101,Tryz.ntmps101;go_wp2_with fail;go_loopw [4,5] (fun ox ix wr=>∃k:Nat,k≤l.length∧ix=.int .i64 k∧Y0 (wr.ownsRow w.heap.size 29 2 ox k (((l.take k).map fM).flatMap FrT.cells))∧Y0 (dM (l.take k)=true)∧Y0 (Below w.heap.size w wr)) (fun _ ix _=>l.length-(intOf ix).toNat)
 case atStart=>exact⟨0,yI _,rfl,yJ _ _ _ _,rfl,yB _ _⟩
 obtain⟨k,hk,rfl,HO,HA,HB⟩:=hrel;have k0:(0:Int)≤(k:Int):=yE _;by_cases ay:k<l.length
 ·have k1:(k:Int)<(l.length:Int):=by omega
  obtain⟨g,rfl,hg,jJ⟩:=HR.o (by omega);obtain⟨mK,mM,mC,mI,mJ,mL,mB,mH,y0,y1,y2,y3,hE⟩:=jJ k ay;have HE:=zh hE;have y0:=(HB.o.cell (p:=⟨g,k*4,none⟩) hg).trans y0;have y1:=(HB.o.cell (p:=⟨g,k*4+1,none⟩) hg).trans y1;have y2:=(HB.o.cell (p:=⟨g,k*4+2,none⟩) hg).trans y2;have y3:=(HB.o.cell (p:=⟨g,k*4+3,none⟩) hg).trans y3;have HTk:Y0 (l.take (k+1)=l.take k++[l[k]]):=aY l k ay;have gM:=zh (fun h:bF l[k]=false=>uQ ay h)
  clear hE hg jJ;generalize l[k]=q at*;go_wp2_with fail;refine (I5 _ q K _ (HE.o.grow HB.o) HK.o).mono ?_;rintro e w5 ⟨rfl,aR⟩;have cJ:=zh (HB.o.trans (aR.mono HB.o.size));have pJ:=zh (qA HO.o aR);clear aR y0 y1 y2 y3;cases hq:bF q
  case true=>
   rw[sj hq];have HQ:=zh hq;have gg:=cJ.o.size;have WA:=zh ((pJ.o.alloc (.cells #[.int .i64 q.num,.int .i64 (q.den:Int)] 29)).alloc (.cells #[.int .i64 q.num,.int .i64 (q.den:Int)] 29));have rU:=World.news_of_block (Blk.new (w5.alloc (.cells #[.int .i64 q.num,.int .i64 (q.den:Int)] 29)) 29 #[.int .i64 q.num,.int .i64 (q.den:Int)]);rw[yZ] at rU;have my:=zh rU;have HAl:Y0 (dM (l.take (k+1))=true):=by
    unfold Y0;rw[HTk.o];unfold dM;rw[List.all_append];have h:=HA.o;unfold dM at h;rw[h];simpa using HQ.o
   clear hq rU HO pJ;go_wp2_with (at_builtin;refine wpList_append_own _ rfl _ _ 27 rfl w.heap.size 29 iF (.agg #[.int .i64 0,.int .i64 0]) 2 16 Tryz.underlying27 Bt oC oB oA rfl (by decide) _ _ _ rfl WA.o ⟨w5.heap.size+1,0,none⟩ 1 1 [.int .i64 q.num,.int .i64 (q.den:Int)] rfl rfl my.o (by simp[Value.oneCell']) (by unfold maxLen;omega) (by omega) (by simp;omega) ?_;intro v' w1 fT eI _;obtain⟨g',tL,rfl⟩:=ownsRow_succ fT)
   have ie:=((cJ.o.alloc gg (.cells #[.int .i64 q.num,.int .i64 (q.den:Int)] 29)).alloc (by simp;omega) (.cells #[.int .i64 q.num,.int .i64 (q.den:Int)] 29)).grown eI (by simp;omega) (fun j ej=>(WA.o.lt j ej).1);have kH:=zh ie;have hO6:w1.ownsRow w.heap.size 29 2 (.slice (some ⟨g',0,none⟩) (k+1) tL) (k+1) (((l.take (k+1)).map fM).flatMap FrT.cells):=by
    rw[HTk.o,yS,List.flatMap_append];exact fT
   have PH:=zh hO6;clear ie hO6 fT eI WA cJ HB HA;go_roundw
   case rel=>exact⟨k+1,by omega,by go_num,PH,HAl,kH⟩
   simp[intOf];omega
  rw[sk hq];have HQ:=zh (gM.o hq);have gg:=cJ.o.size;have kH:=zh (cJ.o.alloc gg (.cells #[.int .i64 0,.int .i64 0] 29));clear hq HO pJ;go_wp2_with fail;refine YF (results_tmp2 rfl _ _ _) (by rfl) ?_;exact⟨kH.o,.inr ⟨HQ.o,rfl⟩⟩
 obtain rfl:k=l.length:=by omega
 rw[yT] at HO HA;go_wp2_with fail;refine YF (results_tmp2 rfl _ _ _) (by rfl) ?_;exact⟨HB.o,.inl ⟨HA.o,_,rfl,HO.o⟩⟩
