/- Lemmas. -/
import Derived.Test.YtmmhehgajkaniaaGreatDoorZ28
namespace Go.Proofs.YtmmhehgajkaniaaGreatDoor
set_option maxRecDepth 100000
set_option maxHeartbeats 40000000
open Go.RowKit Go.Shelf
theorem Qq (x:Rat):(sZ x==0)=decide (x=0):=by
 unfold sZ;by_cases h:x=0
 ·subst h;rfl
 rw[yC h,beq_eq_false_iff_ne];by_cases h1:x<0
 ·rw[if_pos h1];decide
 rw[if_neg h1,if_neg h];decide
def gCs (v0:Value):GPost:=⟨fun v=>v=v0,fun _ _=>True,⟨_,rfl⟩,fun _ _ _ _ _=>trivial,false⟩
theorem Qf {b:BeamT} (hb:BeamOk b) (h1:b.sup.length=1):(sZ (dx b (ah b 0)-dx (al b) (b.len-ah b 0))==0)=bN b:=by
 have h2:=uz hb;rw[h1] at h2;have h3:(0:Rat)-dx b (ah b 0)=bu b:=by rw[t8];rfl
 rw[Qq];unfold bN;rw[if_pos h1,←h2,←h3];have e:b.sup.length-1=0:=by omega
 simp only[Nat.sub_self] at h2⊢;rw[decide_eq_decide];constructor
 ·intro h;grind
 intro h;grind
theorem XK (v:Value) (b:BeamT) (w:World) (hv:BeamAt w w.heap.size v b) (hb:BeamOk b) (hT:∀(u:Value) (w1:World),BeamAt w1 w1.heap.size u b→Calls Tryz.prog 205 #[u] w1 (TurnedPost b w1)) :
  Calls Tryz.prog 140 #[v] w fun e w'=>e=.returned (.bool (!bN b))∧Below w.heap.size w w':=by
 have BR:=hv;obtain⟨As,cs,Al,cl,rfl,hS,-⟩:=hv;obtain⟨_,_,e,_,jJ,u7⟩:=hS.open_;injection e with e1 _ e2;subst e1 e2;have h1:=hb.sup1;have h4:=hb.sup 0 h1.1;unfold maxLen at jJ;obtain⟨bs,os,rfl,gg,By⟩:=u7 0 h1.1;have UQ:=By 0 h1.1;have e0:b.sup[0]'h1.1=ah b 0:=by unfold ah;rw[List.getD_eq_getElem?_getD,List.getElem?_eq_getElem h1.1];rfl
 rw[e0,Nat.add_zero] at UQ;have Hb:=zh hb;have HT:=zh hT;have HA0:=zh h4;have bp:=zh ((yB _ w).alloc (yA _) (.cells (zC b (some ⟨bs,os,none⟩) cs Al cl) 43));have HV:=zh (BR.grow bp.o);have cP:=zh (Blk.new w 43 (zC b (some ⟨bs,os,none⟩) cs Al cl));have z0:=(bp.o.cell (p:=⟨bs,os,none⟩) gg).trans UQ;have s0:(0:Int)<(b.sup.length:Int):=by omega
 have OZ:=zh (Qf hb);have HTn:Y0 (b.sup.length≠1→bN b=true):=fun h=>by unfold bN;rw[if_neg h]
 clear u7 By hb hS hT BR h4 e0 UQ;go_enter Tryz.func140,Tryz.ntmps140;go_upto_region 1 with fail;generalize w.alloc (.cells (zC b (some ⟨bs,os,none⟩) cs Al cl) 43)=W1 at*;obtain⟨y0,y1,y2,y3,y4⟩:=cP.o.c5;generalize ah b 0=sa at*;by_cases hn:b.sup.length=1
 ·have hd:((b.sup.length:Int)==1)=true:=beq_iff_eq.2 (by omega);have HTc:=zh (OZ.o hn);clear hn OZ HTn;have zL:=YL y0;have zK:=YL y1;have AE:=YL y2;have AB:=YL y3;have uy4:=YL y4;have WW:=YL z0;clear y0 y1 y2 y3 y4 z0;refine af 20 (fun jx=>if jx=10 then some (jU (dx b sa) 1270) else if jx=16 then some (jU (dx (al b) (b.len-sa)) 1270) else if jx=17 then some (gCs (.int .i64 (sZ (dx b sa-dx (al b) (b.len-sa))))) else none) (by kernel_rfl) (by kernel_rfl) ?_
  simp only[aM,aP,aN,aO]
  first|refine bG (by first|rfl|go_simp) rfl rfl ?_|refine cg rfl (by first|rfl|go_simp) rfl ?_
  go_big_quiet_step (fail);refine YE ?_
  first|refine bG (by first|rfl|go_simp) rfl rfl ?_|refine cg rfl (by first|rfl|go_simp) rfl ?_
  go_big_quiet_step (fail);refine YE ?_
  first|refine bG (by first|rfl|go_simp) rfl rfl ?_|refine cg rfl (by first|rfl|go_simp) rfl ?_
  go_big_quiet_step (fail);refine YE ?_
  first|refine bG (by first|rfl|go_simp) rfl rfl ?_|refine cg rfl (by first|rfl|go_simp) rfl ?_
  go_big_quiet_step (fail);refine YE ?_
  first|refine bG (by first|rfl|go_simp) rfl rfl ?_|refine cg rfl (by first|rfl|go_simp) rfl ?_
  go_big_quiet_step (fail);refine YE ?_
  first|refine bG (by first|rfl|go_simp) rfl rfl ?_|refine cg rfl (by first|rfl|go_simp) rfl ?_
  go_big_quiet_step (fail);refine YE ?_
  first|refine bG (by first|rfl|go_simp) rfl rfl ?_|refine cg rfl (by first|rfl|go_simp) rfl ?_
  go_big_quiet_step (fail);refine YE ?_
  first|refine bG (by first|rfl|go_simp) rfl rfl ?_|refine cg rfl (by first|rfl|go_simp) rfl ?_
  go_big_quiet_step (fail);refine YE ?_
  first|refine bG (by first|rfl|go_simp) rfl rfl ?_|refine cg rfl (by first|rfl|go_simp) rfl ?_
  go_big_quiet_step (fail);refine YE ?_
  first|refine bG (by first|rfl|go_simp) rfl rfl ?_|refine cg rfl (by first|rfl|go_simp) rfl ?_
  go_big_quiet_step (fail);refine YE ?_;refine sU (by first|rfl|go_simp) rfl (fun w1 ak _=>⟨176,#[.agg (zC b (some ⟨bs,os,none⟩) cs Al cl),.int .i64 sa],by go_simp,Zg (I4 _ b sa w1 (HV.o.grow ak) Hb.o HA0.o.1 HA0.o.2)⟩) ?_;rintro _ ⟨qzc,qze,qx8,qza,qzb,qzd,qx7,qx9,rfl⟩;simp only[Act.put,aC,aB,aA]
  first|refine bG (by first|rfl|go_simp) rfl rfl ?_|refine cg rfl (by first|rfl|go_simp) rfl ?_
  go_big_quiet_step (fail);refine YE ?_
  first|refine bG (by first|rfl|go_simp) rfl rfl ?_|refine cg rfl (by first|rfl|go_simp) rfl ?_
  go_big_quiet_step (fail);refine YE ?_
  first|refine bG (by first|rfl|go_simp) rfl rfl ?_|refine cg rfl (by first|rfl|go_simp) rfl ?_
  go_big_quiet_step (fail);refine YE ?_
  first|refine bG (by first|rfl|go_simp) rfl rfl ?_|refine cg rfl (by first|rfl|go_simp) rfl ?_
  go_big_quiet_step (fail);refine YE ?_
  first|refine bG (by first|rfl|go_simp) rfl rfl ?_|refine cg rfl (by first|rfl|go_simp) rfl ?_
  go_big_quiet_step (fail);refine YE ?_;refine sU (by first|rfl|go_simp) rfl (fun w1 ak _=>⟨177,#[.agg (zC b (some ⟨bs,os,none⟩) cs Al cl),.int .i64 sa],by go_simp,Zg (AP _ b sa w1 (HV.o.grow ak) Hb.o HA0.o.1 HA0.o.2 HT.o)⟩) ?_;rintro _ ⟨qwU,qwW,qwQ,qwS,qwT,qwV,qwP,qwR,rfl⟩;simp only[Act.put,aC,aB,aA];refine sU (by first|rfl|go_simp) rfl ?_ ?_
  ·intro w1 ak hk;have FT:ExqAt w1 w1.heap.size (.agg (zD qzc qze qx8 qza qzb qzd qx7 qx9)) (dx b sa) (1270):=hk 13 zk;have h19:ExqAt w1 w1.heap.size (.agg (zD qwU qwW qwQ qwS qwT qwV qwP qwR)) (dx (al b) (b.len-sa)) (1270):=hk 19 zk;exact⟨175,#[.agg (zD qzc qze qx8 qza qzb qzd qx7 qx9),.agg (zD qwU qwW qwQ qwS qwT qwV qwP qwR)],by go_simp,(qj6 _ _ (dx b sa) (dx (al b) (b.len-sa)) 1270 1270 w1 FT h19 (by decide)).mono fun _ _ hp=>⟨_,hp.1,hp.2,rfl,trivial⟩⟩
  rintro _ rfl;simp only[Act.put,aC,aB,aA];have HTd:Y0 ((!(sZ (dx b sa-dx (al b) (b.len-sa))==0)) = !bN b):=by unfold Y0;rw[HTc.o]
  generalize sZ (dx b sa-dx (al b) (b.len-sa))=z at*
  first|refine bG (by first|rfl|go_simp) rfl rfl ?_|refine cg rfl (by first|rfl|go_simp) rfl ?_
  go_big_quiet_step (fail);refine YE ?_
  first|refine bG (by first|rfl|go_simp) rfl rfl ?_|refine cg rfl (by first|rfl|go_simp) rfl ?_
  go_big_quiet_step (fail);refine YE ?_;refine Zc ?_;intro w8 aJ hF;have ep:=zh (bp.o.trans (aJ.mono bp.o.size));clear hF aJ;go_wp2_with fail;go_ret;exact⟨congrArg (fun x=>Ending.returned (.bool x)) HTd.o,ep.o⟩
 have hd:((b.sup.length:Int)==1)=false:=zb (by omega);have HTd:Y0 (false = !bN b):=by unfold Y0;rw[HTn.o hn];rfl
 have ep:=zh (Zf bp.o);clear hn OZ HTn;go_quiet (fail);go_wp2_with fail;go_ret;exact⟨congrArg (fun x=>Ending.returned (.bool x)) HTd.o,ep.o _⟩
theorem Wk {b:BeamT} {k:Nat} (hk:k<b.loads.length) (h:cw b.len b.loads[k]=false):cF b=false:=by
 unfold cF
 have:b.loads.all (cw b.len)=false:=by
  rw[List.all_eq_false];exact⟨b.loads[k],yV hk,by rw[h];decide⟩
 rw[this,Bool.and_false]
theorem ZR {b:BeamT} (h1:cT b=true) (h2:cG b b.sup.length=true) (h3:(b.loads.take b.loads.length).all (cw b.len)=true):cF b=true:=by
 rw[yT] at h3;unfold cF;rw[h1,h2,h3];rfl
theorem XJ (v:Value) (b:BeamT) (w:World) (hv:BeamAt w w.heap.size v b) (hn:b.name.size≤maxLen):Calls Tryz.prog 139 #[v] w fun e w'=>e=.returned (.bool (cF b))∧Below w.heap.size w w':=by
 obtain⟨As,cs,Al,cl,rfl,hS,hL⟩:=hv;have HN:=fun W=>pu b.name hn W;obtain⟨_,_,e,kZ,jT,u7⟩:=hS.open_;injection e with e1 _ e2;subst e1 e2;obtain⟨_,_,e,rV,sO,pZ⟩:=hL.open_;injection e with e1 _ e2;subst e1 e2;unfold maxLen at jT sO;have HSc:=zh u7;have zQ:=zh pZ;have HD:=zh (Blk.new w 43 (zC b As cs Al cl));have HB:=zh ((yB _ w).alloc (yA _) (.cells (zC b As cs Al cl) 43));clear hS u7 hn hL pZ;go_enter Tryz.func139,Tryz.ntmps139
 go_wp2_with (exact zX);generalize w.alloc (.cells (zC b As cs Al cl) 43)=W1 at*;obtain⟨y0,y1,y2,y3,y4⟩:=HD.o.c5;have t6:=HN W1;cases d0:dw b.name
 ·rw[d0] at t6;have HV:Y0 (cF b=false):=by unfold Y0;refine cA ?_;unfold cT;simp only[d0];rfl
  go_wp2_with (go_at_call 20;refine t6.mono ?_;rintro e w' ⟨rfl,rfl⟩);go_ret;exact⟨Ze HV.o.symm,HB.o⟩
 rw[d0] at t6;by_cases c1:b.len<1
 ·have d1:decide (b.len<1)=true:=yD c1;have HV:Y0 (cF b=false):=by unfold Y0;refine cA ?_;unfold cT;simp only[d0,d1];rfl
  go_wp2_with (go_at_call 20;refine t6.mono ?_;rintro e w' ⟨rfl,rfl⟩);go_ret;exact⟨Ze HV.o.symm,HB.o⟩
 have d1:decide (b.len<1)=false:=yC c1;by_cases c2:1048576<b.len
 ·have d2:decide (1048576<b.len)=true:=yD c2;have HV:Y0 (cF b=false):=by unfold Y0;refine cA ?_;unfold cT;simp only[d0,d1,d2];rfl
  go_wp2_with (go_at_call 20;refine t6.mono ?_;rintro e w' ⟨rfl,rfl⟩);go_ret;exact⟨Ze HV.o.symm,HB.o⟩
 have d2:decide (1048576<b.len)=false:=yC c2;by_cases c3:b.even<0
 ·have d3:decide (b.even<0)=true:=yD c3;have HV:Y0 (cF b=false):=by unfold Y0;refine cA ?_;unfold cT;simp only[d0,d1,d2,d3];rfl
  go_wp2_with (go_at_call 20;refine t6.mono ?_;rintro e w' ⟨rfl,rfl⟩);go_ret;exact⟨Ze HV.o.symm,HB.o⟩
 have d3:decide (b.even<0)=false:=yC c3;by_cases c4:1048576<b.even
 ·have d4:decide (1048576<b.even)=true:=yD c4;have HV:Y0 (cF b=false):=by unfold Y0;refine cA ?_;unfold cT;simp only[d0,d1,d2,d3,d4];rfl
  go_wp2_with (go_at_call 20;refine t6.mono ?_;rintro e w' ⟨rfl,rfl⟩);go_ret;exact⟨Ze HV.o.symm,HB.o⟩
 have d4:decide (1048576<b.even)=false:=yC c4;by_cases c5:(b.sup.length:Int)<1
 ·have d5:decide ((b.sup.length:Int)<1)=true:=yD c5;have HV:Y0 (cF b=false):=by unfold Y0;refine cA ?_;unfold cT;simp only[d0,d1,d2,d3,d4,d5];rfl
  go_wp2_with (go_at_call 20;refine t6.mono ?_;rintro e w' ⟨rfl,rfl⟩);go_ret;exact⟨Ze HV.o.symm,HB.o⟩
 have d5:decide ((b.sup.length:Int)<1)=false:=yC c5;by_cases c6:10<(b.sup.length:Int)
 ·have d6:decide (10<(b.sup.length:Int))=true:=yD c6;have HV:Y0 (cF b=false):=by unfold Y0;refine cA ?_;unfold cT;simp only[d0,d1,d2,d3,d4,d5,d6];rfl
  go_wp2_with (go_at_call 20;refine t6.mono ?_;rintro e w' ⟨rfl,rfl⟩);go_ret;exact⟨Ze HV.o.symm,HB.o⟩
 have d6:decide (10<(b.sup.length:Int))=false:=yC c6;by_cases c7:40<(b.loads.length:Int)
 ·have d7:decide (40<(b.loads.length:Int))=true:=yD c7;have HV:Y0 (cF b=false):=by unfold Y0;refine cA ?_;unfold cT;simp only[d0,d1,d2,d3,d4,d5,d6,d7];rfl
  go_wp2_with (go_at_call 20;refine t6.mono ?_;rintro e w' ⟨rfl,rfl⟩);go_ret;exact⟨Ze HV.o.symm,HB.o⟩
 have d7:decide (40<(b.loads.length:Int))=false:=yC c7;have HH:Y0 (cT b=true):=by unfold Y0 cT;simp only[d0,d1,d2,d3,d4,d5,d6,d7];rfl
 obtain⟨bs,os,rfl,gg,By⟩:=HSc.o 0 (by omega);have np:Y0 (∀j,j<b.sup.length→W1.cell? ⟨bs,os+j,none⟩=some (.int .i64 (ah b j))):=fun j hj=>by
  have h:=(HB.o.cell (p:=⟨bs,os+j,none⟩) gg).trans (By j hj);unfold ah;rw[yN,yM hj];exact h
 clear By HSc;go_wp2_with (go_at_call 20;refine t6.mono ?_;rintro e w' ⟨rfl,rfl⟩);go_loopw [3] (fun x wr=>∃k:Nat,k≤b.sup.length∧x=.int .i64 k∧Y0 (cG b k=true)∧∃q,W1.drewN q=wr) (fun x _=>b.sup.length-(intOf x).toNat)
 case atStart=>exact⟨0,yI _,rfl,pV b,0,rfl⟩
 obtain⟨k,hk,rfl,HG,q,rfl⟩:=hrel;by_cases ao:k<b.sup.length
 ·have z:=np.o k ao;have i1:(0:Int)≤(k:Int):=yE _;have i2:(k:Int)<(b.sup.length:Int):=by omega
  by_cases e1:ah b k<0
  ·have f1:decide (ah b k<0)=true:=yD e1;have HV:Y0 (cF b=false):=lP ao (by unfold eJ;rw[f1];rfl);go_wp2_with fail;go_quiet (fail);go_wp2_with fail;go_ret;exact⟨Ze HV.o.symm,Zf (Zf HB.o _) _⟩
  have f1:decide (ah b k<0)=false:=yC e1;by_cases e2:b.len<ah b k
  ·have f2:decide (b.len<ah b k)=true:=yD e2;have HV:Y0 (cF b=false):=lP ao (by unfold eJ;rw[f1,f2];rfl);go_wp2_with fail;go_quiet (fail);go_wp2_with fail;go_ret;exact⟨Ze HV.o.symm,Zf (Zf HB.o _) _⟩
  have f2:decide (b.len<ah b k)=false:=yC e2;by_cases e3:k=0
  ·have f3':¬(0:Int)<(k:Int):=by omega
   have f3:decide ((0:Int)<(k:Int))=false:=yC f3';have f3n:decide (0<k)=false:=yC (by omega);have HV:Y0 (cG b (k+1)=true):=iV HG.o (by unfold eJ;rw[f1,f2,decide_eq_true e3];rfl);clear e3;go_wp2_with fail;go_quiet (fail);go_wp2_with fail;go_roundw
   case rel=>exact⟨k+1,ao,by go_num,HV,_,rfl⟩
   simp[intOf];omega
  have f3:decide ((0:Int)<(k:Int))=true:=yD (by omega);have f3n:decide (0<k)=true:=yD (by omega);have z0:=np.o (k-1) (by omega);have i4:((k:Int)-1).toNat=k-1:=by omega
  have i5:(0:Int)≤(k:Int)-1:=by omega
  have i6:(k:Int)-1<(b.sup.length:Int):=by omega
  have v1:IntKind.i64.wrap ((k:Int)-1)=(k:Int)-1:=yF _ (by omega);have E3:Y0 (¬k=0):=e3;clear e3;by_cases e4:ah b k≤ah b (k-1)
  ·have f4:decide (ah b k≤ah b (k-1))=true:=yD e4;have HV:Y0 (cF b=false):=lP ao (by unfold eJ;rw[f1,f2,f4,decide_eq_false E3.o];rfl);go_wp2_with fail;go_quiet (fail);go_wp2_with fail;go_ret;exact⟨Ze HV.o.symm,Zf (Zf HB.o _) _⟩
  have f4:decide (ah b k≤ah b (k-1))=false:=yC e4;have HV:Y0 (cG b (k+1)=true):=iV HG.o (by unfold eJ;rw[f1,f2,f4,decide_eq_false E3.o];rfl);go_wp2_with fail;go_quiet (fail);go_wp2_with fail;go_roundw
  case rel=>exact⟨k+1,ao,by go_num,HV,_,rfl⟩
  simp[intOf];omega
 have oD:k=b.sup.length:=by omega
 subst oD;have HBq:=zh (Zf HB.o q);have Dx:=zh (HD.o.drewN q);clear y0 y1 y4 np;go_wp2_with fail;have vx6:Y0 ((b.loads.take 0).all (cw b.len)=true):=rfl;generalize W1.drewN q=W2 at*;go_loopw [4] (fun x wr=>∃k:Nat,k≤b.loads.length∧x=.int .i64 k∧Y0 ((b.loads.take k).all (cw b.len)=true)∧Y0 (Below w.heap.size w wr∧Blk wr w.heap.size 43 (zC b (some ⟨bs,os,none⟩) cs Al cl))) (fun x _=>b.loads.length-(intOf x).toNat)
 case atStart=>exact⟨0,yI _,rfl,vx6,HBq.o,Dx.o⟩
 clear HBq Dx vx6 HB HD y2 y3;obtain⟨k,hk,rfl,HA,HM⟩:=hrel;have y1:=HM.o.2.cell 1;have y3:=HM.o.2.cell 3;simp only[aG,aH,aD] at y1 y3;have i1:(0:Int)≤(k:Int):=yE _;by_cases ao:k<b.loads.length
 ·have i2:(k:Int)<(b.loads.length:Int):=by omega
  obtain⟨bl,ol,rfl,hbl,eG⟩:=zQ.o k ao;obtain⟨cB,dc⟩:=eG k ao;have cB:=(HM.o.1.cell (p:=⟨bl,ol+k*2,none⟩) hbl).trans cB;have dc:=(HM.o.1.cell (p:=⟨bl,ol+k*2+1,none⟩) hbl).trans dc;have gM:=zh (fun h=>Wk (b:=b) ao h);have mz:Y0 (cw b.len b.loads[k]=true→(b.loads.take (k+1)).all (cw b.len)=true):=fun h=>by
   rw[aY b.loads k ao,List.all_append,HA.o];simpa using h
  clear eG;generalize b.loads[k]=x at*;obtain⟨pos,wt⟩:=x;simp only at cB dc;have HBa:Y0 (Below w.heap.size w (wr.alloc (.cells #[.int .i64 pos,.int .i64 wt] 40))∧Blk (wr.alloc (.cells #[.int .i64 pos,.int .i64 wt] 40)) w.heap.size 43 (zC b (some ⟨bs,os,none⟩) cs (some ⟨bl,ol,none⟩) cl)):=⟨HM.o.1.alloc HM.o.1.size _,HM.o.2.alloc _⟩;have y1a:=HBa.o.2.cell 1;simp only[aG,aH,aD] at y1a;clear HM HA;by_cases c0:pos<0
  ·have d0:decide (pos<0)=true:=yD c0;have HV:Y0 (cF b=false):=gM.o (by unfold cw;simp only[d0];rfl);clear gM mz;go_wp2_with fail;go_ret;exact⟨Ze HV.o.symm,HBa.o.1⟩
  have d0:decide (pos<0)=false:=yC c0;by_cases c1:b.len<pos
  ·have d1:decide (b.len<pos)=true:=yD c1;have HV:Y0 (cF b=false):=gM.o (by unfold cw;simp only[d0,d1];rfl);clear gM mz;go_wp2_with fail;go_ret;exact⟨Ze HV.o.symm,HBa.o.1⟩
  have d1:decide (b.len<pos)=false:=yC c1;by_cases c2:wt<0
  ·have d2:decide (wt<0)=true:=yD c2;have HV:Y0 (cF b=false):=gM.o (by unfold cw;simp only[d0,d1,d2];rfl);clear gM mz;go_wp2_with fail;go_ret;exact⟨Ze HV.o.symm,HBa.o.1⟩
  have d2:decide (wt<0)=false:=yC c2;by_cases c3:67108864<wt
  ·have d3:decide (67108864<wt)=true:=yD c3;have HV:Y0 (cF b=false):=gM.o (by unfold cw;simp only[d0,d1,d2,d3];rfl);clear gM mz;go_wp2_with fail;go_ret;exact⟨Ze HV.o.symm,HBa.o.1⟩
  have d3:decide (67108864<wt)=false:=yC c3;have HV:=zh (mz.o (by unfold cw;simp only[d0,d1,d2,d3];rfl));clear gM mz;go_wp2_with fail;go_roundw
  case rel=>exact⟨k+1,ao,by go_num,HV,HBa⟩
  simp[intOf];omega
 have oD:k=b.loads.length:=by omega
 subst oD;have HV:=zh (ZR HH.o HG.o HA.o);go_wp2_with fail;go_ret;exact⟨Ze HV.o.symm,HM.o.1⟩
def qL (b:BeamT):Int:=if cF b=false then 1 else if bN b=false then 22 else 0
theorem XL (v:Value) (b:BeamT) (w:World) (hv:BeamAt w w.heap.size v b) (hn:b.name.size≤maxLen) (hT:BeamOk b→∀(u:Value) (w1:World),BeamAt w1 w1.heap.size u b→Calls Tryz.prog 205 #[u] w1 (TurnedPost b w1)):Calls Tryz.prog 100 #[v] w fun e w'=>e=.returned (.int .i64 (qL b))∧Below w.heap.size w w':=by
 have BR:=hv;obtain⟨As,cs,Al,cl,rfl,-⟩:=hv;have HD:=zh (Blk.new w 43 (zC b As cs Al cl));have HB:=zh ((yB _ w).alloc (yA _) (.cells (zC b As cs Al cl) 43));have HV:=zh (BR.grow HB.o);have BQ:=zh (fun u W h=>XJ u b W h hn);have OZ:=zh (fun u h W hW=>XK u b W hW h (hT h));clear BR hn hT;go_enter Tryz.func100,Tryz.ntmps100;go_upto_region 1 with fail;generalize w.alloc (.cells (zC b As cs Al cl) 43)=W1 at*
 obtain⟨y0,y1,y2,y3,y4⟩:=HD.o.c5;go_wp2_with fail;refine (BQ.o _ W1 HV.o).mono ?_;rintro e w3 ⟨rfl,bM⟩;have cZ:=zh (HB.o.trans (bM.mono HB.o.size));have PF:=zh (HV.o.grow bM);have hd3:=HD.o.below bM HD.o.lt;clear y0 y1 y2 y3 y4;obtain⟨y0,y1,y2,y3,y4⟩:=hd3.c5;clear bM HB HV HD BQ hd3;cases bL:cF b
 ·have HE:Y0 (qL b=1):=if_pos bL;clear bL;go_wp2_with fail;go_ret;exact⟨congrArg (fun x=>Ending.returned (.int .i64 x)) HE.o.symm,cZ.o⟩
 have HOk:=zh (ja bL);have HE:Y0 (qL b=if bN b=false then 22 else 0):=if_neg (by rw[bL];decide);clear bL;go_wp2_with fail;refine (OZ.o _ HOk.o w3 PF.o).mono ?_;rintro e w4 ⟨rfl,bU⟩;have fI:=zh (cZ.o.trans (bU.mono cZ.o.size));clear bU y0 y1 y2 y3 y4;cases ht:bN b
 ·have iq:Y0 (qL b=22):=HE.o.trans (if_pos ht);clear ht HE;go_wp2_with fail;go_ret;exact⟨congrArg (fun x=>Ending.returned (.int .i64 x)) iq.o.symm,fI.o⟩
 have iq:Y0 (qL b=0):=HE.o.trans (if_neg (by rw[ht];decide));clear ht HE;go_wp2_with fail;go_ret;exact⟨congrArg (fun x=>Ending.returned (.int .i64 x)) iq.o.symm,fI.o⟩
structure TnQ (w W:World) (b:BeamT) (As:Option Addr) (cs:Nat) (Al:Option Addr) (cl:Nat) (v2 v3:Value) (xs:List Int) (ys:List LoadT):Prop where
 d0:Blk W w.heap.size 43 (zC b As cs Al cl)
 d1:Blk W (w.heap.size+1) 43 #[.string ⟨#[]⟩,.int .i64 0,.slice none 0 0,.slice none 0 0,.int .i64 0]
 d2:Blk W (w.heap.size+1+1) 43 #[.string b.name,.int .i64 b.len,v2,v3,.int .i64 b.even]
 o2:W.ownsRow w.heap.size 3 1 v2 xs.length (xs.map (Value.int .i64))
 o3:W.ownsRow w.heap.size 40 2 v3 ys.length (ys.flatMap LoadT.cells)
 bel:Below w.heap.size w W
section
variable {w W W':World} {b:BeamT} {As:Option Addr} {cs:Nat} {Al:Option Addr} {cl:Nat} {v2 v3:Value} {xs:List Int} {ys:List LoadT}
theorem m9 {g:Nat} {t e:TypeId} {c:Array Value} {B s n:Nat} {v:Value} {L:List Value} (hb:Blk W g t c) (ho:W.ownsRow B e s v n L) (hg:W.grownBy W' v.ownBlock) (ht:e≠t):Blk W' g t c:=hb.kept hg (hb.ne_own ho ht)
theorem Qe {e e':TypeId} {B B' s s' n n':Nat} {v v':Value} {L L':List Value} (h':W.ownsRow B' e' s' v' n' L') (ho:W.ownsRow B e s v n L) (hg:W.grownBy W' v.ownBlock) (ht:e≠e'):W'.ownsRow B' e' s' v' n' L':=h'.kept hg (Zj h' fun r e1 c f hh=>by
 obtain⟨c',hc⟩:=tj ho e1;rw[hh] at hc;injection hc with hc;injection hc with _ hc _;exact ht hc.symm)
theorem gT {e:TypeId} {B s n g i:Nat} {v u:Value} {L:List Value} {t:TypeId} {c:Array Value} (ho:W.ownsRow B e s v n L) (hb:Blk W g t c) (ht:e≠t):(W.setCell ⟨g,i,none⟩ u).ownsRow B e s v n L:=ho.kept (hb.setGrown i u) (Zj ho fun r e1 c' f hh=>by
 obtain rfl:g=r:=by simpa using e1
 unfold Blk at hb;rw[hb] at hh;injection hh with hh;injection hh with _ hh _;exact ht hh.symm)
theorem TnQ.allocDrew (h:TnQ w W b As cs Al cl v2 v3 xs ys) (o:Obj):TnQ w ((W.alloc o).drew) b As cs Al cl v2 v3 xs ys :=
 ⟨(h.d0.alloc o).drewN 1,(h.d1.alloc o).drewN 1,(h.d2.alloc o).drewN 1,fL (h.o2.alloc o) 1,fL (h.o3.alloc o) 1,(h.bel.alloc h.bel.size o).drew⟩
theorem TnQ.drew1 (h:TnQ w W b As cs Al cl v2 v3 xs ys):TnQ w W.drew b As cs Al cl v2 v3 xs ys :=
 ⟨h.d0.drewN 1,h.d1.drewN 1,h.d2.drewN 1,fL h.o2 1,fL h.o3 1,h.bel.drew⟩
theorem TnQ.alloc1 (h:TnQ w W b As cs Al cl v2 v3 xs ys) (o:Obj):TnQ w (W.alloc o) b As cs Al cl v2 v3 xs ys :=
 ⟨h.d0.alloc o,h.d1.alloc o,h.d2.alloc o,h.o2.alloc o,h.o3.alloc o,h.bel.alloc h.bel.size o⟩
theorem TnQ.step2 (h:TnQ w W b As cs Al cl v2 v3 xs ys) {v':Value} {w1:World} {x:Int} (aK:w1.ownsRow w.heap.size 3 1 v' (xs.length+1) (xs.map (Value.int .i64)++[.int .i64 x])) (hg:W.grownBy w1 v2.ownBlock) :
  TnQ w (w1.setCell ⟨w.heap.size+1+1,2,none⟩ v') b As cs Al cl v' v3 (xs++[x]) ys:=by
 have e0:=m9 h.d0 h.o2 hg (by decide);have e1:=m9 h.d1 h.o2 hg (by decide);have e2:=m9 h.d2 h.o2 hg (by decide);have e3:=Qe h.o3 h.o2 hg (by decide);have e4:Below w.heap.size w w1:=h.bel.grown hg h.bel.size (fun k e=>(h.o2.lt k e).1);refine⟨e0.far (by show w.heap.size≠w.heap.size+1+1;omega) _,e1.far (by show w.heap.size+1≠w.heap.size+1+1;omega) _,e2.set_ 2 v',?_,gT e3 e2 (by decide),e4.setCell (p:=⟨w.heap.size+1+1,2,none⟩) (by show w.heap.size≤w.heap.size+1+1;omega) _⟩
 rw[yQ,yS];exact gT aK e2 (by decide)
theorem TnQ.step3 (h:TnQ w W b As cs Al cl v2 v3 xs ys) {v':Value} {w1:World} {y:LoadT} (aK:w1.ownsRow w.heap.size 40 2 v' (ys.length+1) (ys.flatMap LoadT.cells++[.int .i64 y.pos,.int .i64 y.wt])) (hg:W.grownBy w1 v3.ownBlock) :
  TnQ w (w1.setCell ⟨w.heap.size+1+1,3,none⟩ v') b As cs Al cl v2 v' xs (ys++[y]):=by
 have e0:=m9 h.d0 h.o3 hg (by decide);have e1:=m9 h.d1 h.o3 hg (by decide);have e2:=m9 h.d2 h.o3 hg (by decide);have e3:=Qe h.o2 h.o3 hg (by decide);have e4:Below w.heap.size w w1:=h.bel.grown hg h.bel.size (fun k e=>(h.o3.lt k e).1);refine⟨e0.far (by show w.heap.size≠w.heap.size+1+1;omega) _,e1.far (by show w.heap.size+1≠w.heap.size+1+1;omega) _,e2.set_ 3 v',gT e3 e2 (by decide),?_,e4.setCell (p:=⟨w.heap.size+1+1,3,none⟩) (by show w.heap.size≤w.heap.size+1+1;omega) _⟩
 rw[yQ,List.flatMap_append];exact gT aK e2 (by decide)
end
theorem TnQ.fin {w W:World} {b:BeamT} {As:Option Addr} {cs:Nat} {Al:Option Addr} {cl:Nat} {A2 A3:Option Addr} {k2 k3:Nat} {XS:List Int} {YS:List LoadT} (h:TnQ w W b As cs Al cl (.slice A2 XS.length k2) (.slice A3 YS.length k3) XS YS) (hX:b.sup.reverse.map (b.len - ·)=XS) (hY:b.loads.map (fun x=>(⟨b.len - x.pos,x.wt⟩:LoadT))=YS) {W9:World}
  (h9:((((W.setCell ⟨w.heap.size+1,0,none⟩ (.string b.name)).setCell ⟨w.heap.size+1,1,none⟩ (.int .i64 b.len)).setCell ⟨w.heap.size+1,2,none⟩ (.slice A2 XS.length k2)).setCell ⟨w.heap.size+1,3,none⟩ (.slice A3 YS.length k3)).setCell ⟨w.heap.size+1,4,none⟩ (.int .i64 b.even)=W9) :
  Blk W9 (w.heap.size+1) 43 #[.string b.name,.int .i64 b.len,.slice A2 XS.length k2,.slice A3 YS.length k3,.int .i64 b.even]∧Below w.heap.size w W9∧BeamAt W9 W9.heap.size (.agg #[.string b.name,.int .i64 b.len,.slice A2 XS.length k2,.slice A3 YS.length k3,.int .i64 b.even]) (al b):=by
 have hR:w.heap.size≤w.heap.size+1:=YH _;have e1:=h.d1.set_ 0 (.string b.name);have e2:=e1.set_ 1 (.int .i64 b.len);have e3:=e2.set_ 2 (.slice A2 XS.length k2);have e4:=e3.set_ 3 (.slice A3 YS.length k3);have e5:=e4.set_ 4 (.int .i64 b.even);have o2:=gT (i:=4) (u:=.int .i64 b.even) (gT (i:=3) (u:=.slice A3 YS.length k3) (gT (i:=2) (u:=.slice A2 XS.length k2) (gT (i:=1) (u:=.int .i64 b.len) (gT (i:=0) (u:=.string b.name) h.o2 h.d1 (by decide)) e1 (by decide)) e2 (by decide)) e3 (by decide)) e4 (by decide)
 have o3:=gT (i:=4) (u:=.int .i64 b.even) (gT (i:=3) (u:=.slice A3 YS.length k3) (gT (i:=2) (u:=.slice A2 XS.length k2) (gT (i:=1) (u:=.int .i64 b.len) (gT (i:=0) (u:=.string b.name) h.o3 h.d1 (by decide)) e1 (by decide)) e2 (by decide)) e3 (by decide)) e4 (by decide);have hb:=((((h.bel.setCell (p:=⟨w.heap.size+1,0,none⟩) hR (.string b.name)).setCell (p:=⟨w.heap.size+1,1,none⟩) hR (.int .i64 b.len)).setCell (p:=⟨w.heap.size+1,2,none⟩) hR (.slice A2 XS.length k2)).setCell (p:=⟨w.heap.size+1,3,none⟩) hR (.slice A3 YS.length k3)).setCell (p:=⟨w.heap.size+1,4,none⟩) hR (.int .i64 b.even)
 subst h9;subst hX hY;exact⟨e5,hb,A2,k2,A3,k3,rfl,RowAt.of_own o2,Flat.of_own o3⟩
theorem Iv {ops:Array Oper} {o:Oper} {a:Act} {w:World} {K:Act→World→Prop} {Q:Exit→Act→World→Prop} {E:Prop} (sP:o.guard=none) (s x:Operand)
  (ho:o.op=.call { callee:=.builtin .append,args:=#[s,x],argTypes:=#[22,22] }) {B m:Nat} {v:Value} {xs:List Value} (T:w.ownsRow B 3 1 v m xs) (hB:B≤w.heap.size) {t:Int} {a1:Nat} (N:Blk w a1 3 #[.int .i64 t])
  (hs:a.eval s=v) (hx:a.eval x=.slice (some ⟨a1,0,none⟩) 1 1) (cI:m≤1000)
  (h:∀g cap w',w'.ownsRow B 3 1 (.slice (some ⟨g,0,none⟩) (m+1) cap) (m+1) (xs++[.int .i64 t])→w.grownBy w' v.ownBlock→K (a.put o.dst (.slice (some ⟨g,0,none⟩) (m+1) cap)) w') :
  if Region.wanted o (yielded ops a.tmps)=true then Oper.wp Tryz.prog o a w K Q else E:=by
 obtain⟨i0,jB,hH,jb,km⟩:=info_parts tx;refine step_append_lies w sP s x 22 ho B 3 i0 _ 1 8 Tryz.underlying22 jB hH jb km rfl (by decide) v m xs hs T ⟨a1,0,none⟩ 1 1 [.int .i64 t] hx rfl
  (fun j u hu=>by rw[Addr.add_lit,yR];exact (N.cell j).trans (by simpa using hu)) (fun u hu=>by rw[List.mem_singleton.1 hu];rfl) (by omega) (by unfold maxLen;omega) (by omega) hB _ rfl ?_
 intro g cap w' aK eI _ _;exact h g cap w' aK eI
theorem XB (b:BeamT) {i:Nat} (hi:i<b.sup.length):(b.sup.drop i).reverse.map (b.len - ·)=(b.sup.drop (i+1)).reverse.map (b.len - ·)++[b.len-b.sup[i]]:=by
 rw[List.drop_eq_getElem_cons hi,List.reverse_cons,yS];rfl
theorem qj0 (b:BeamT) {k:Nat} (hk:k<b.loads.length):(b.loads.take (k+1)).map (fun x=>(⟨b.len-x.pos,x.wt⟩:LoadT))=(b.loads.take k).map (fun x=>(⟨b.len-x.pos,x.wt⟩:LoadT))++[⟨b.len-b.loads[k].pos,b.loads[k].wt⟩]:=by
 rw[aY b.loads k hk,yS];rfl
theorem Qs (v:Value) (b:BeamT) (w:World) (hv:BeamAt w w.heap.size v b) (hb:BeamOk b):Calls Tryz.prog 205 #[v] w (TurnedPost b w):=by
 obtain⟨As,cs,Al,cl,rfl,hS,hL⟩:=hv;obtain⟨_,_,e,_,jJ,u7⟩:=hS.open_;injection e with e1 _ e2;subst e1 e2;obtain⟨_,_,e,_,eG,pZ⟩:=hL.open_;injection e with e1 _ e2;subst e1 e2;have h1:=hb.sup1.2;have h2:=hb.loads1;have h5:=hb.len;unfold maxLen at jJ eG;have HSc:=zh u7;have zQ:=zh pZ;have Hb:=zh hb;obtain⟨h51,h52⟩:=h5;have cZ:=zh (bV w 43 43 43 (zC b As cs Al cl) #[.string ⟨#[]⟩,.int .i64 0,.slice none 0 0,.slice none 0 0,.int .i64 0] (zC b As cs Al cl))
 clear pZ u7 hb hS hL;go_enter Tryz.func205,Tryz.ntmps205;go_upto_region 2 with fail;generalize ((w.alloc (.cells (zC b As cs Al cl) 43)).alloc (.cells #[.string ⟨#[]⟩,.int .i64 0,.slice none 0 0,.slice none 0 0,.int .i64 0] 43)).alloc (.cells (zC b As cs Al cl) 43)=W3 at*;obtain⟨D0,D1,D2,bp⟩:=cZ.o;have HT:Y0 (TnQ w ((W3.setCell ⟨w.heap.size+1+1,2,none⟩ (.slice none 0 0)).setCell ⟨w.heap.size+1+1,3,none⟩ (.slice none 0 0)) b As cs Al cl (.slice none 0 0) (.slice none 0 0) [] []) :=
  ⟨(D0.far (p:=⟨w.heap.size+1+1,2,none⟩) (by show w.heap.size≠w.heap.size+1+1;omega) _).far (p:=⟨w.heap.size+1+1,3,none⟩) (by show w.heap.size≠w.heap.size+1+1;omega) _,
   (D1.far (p:=⟨w.heap.size+1+1,2,none⟩) (by show w.heap.size+1≠w.heap.size+1+1;omega) _).far (p:=⟨w.heap.size+1+1,3,none⟩) (by show w.heap.size+1≠w.heap.size+1+1;omega) _,
   (D2.set_ 2 (.slice none 0 0)).set_ 3 (.slice none 0 0),yJ _ _ _ _,yJ _ _ _ _,
   (bp.setCell (p:=⟨w.heap.size+1+1,2,none⟩) (by show w.heap.size≤w.heap.size+1+1;omega) _).setCell (p:=⟨w.heap.size+1+1,3,none⟩) (by show w.heap.size≤w.heap.size+1+1;omega) _⟩
 have f2:=D2.frozen 2;have f3:=D2.frozen 3;have x2:=D2.cell 2;have x3:=D2.cell 3;have HT1:=HT.o.d0.cell 2;simp only[aG,aH,aD] at x2 x3 HT1;have cY:=zh D2;clear cZ D0 D1 D2 bp;go_upto_region 4 with fail;generalize (W3.setCell ⟨w.heap.size+1+1,2,none⟩ (.slice none 0 0)).setCell ⟨w.heap.size+1+1,3,none⟩ (.slice none 0 0)=W4 at*;clear f2 f3 x2 x3 cY;go_wp2_with fail;have PK:Y0 ((b.sup.drop b.sup.length).reverse.map (b.len - ·)=[]):=by unfold Y0;rw[List.drop_length];rfl
 go_loopw [4] (fun kx wr=>∃m:Nat,m≤b.sup.length∧kx=.int .i64 ((m:Int)-1)∧∃v2,Y0 (TnQ w wr b As cs Al cl v2 (.slice none 0 0) ((b.sup.drop m).reverse.map (b.len - ·)) [])) (fun kx _=>(intOf kx+1).toNat)
 case atStart=>exact⟨b.sup.length,yA _,by go_num,_,by rw[PK.o];exact HT⟩
 clear HT HT1 PK;obtain⟨m,hm,rfl,v2,HT⟩:=hrel;have hlx:((b.sup.drop m).reverse.map (b.len - ·)).length=b.sup.length-m:=by simp
 rcases m with _|i
 ·rw[List.drop_zero] at HT hlx;generalize hXS:b.sup.reverse.map (b.len - ·)=XS at*;have HXS:=zh hXS;obtain⟨A2,k2,rfl⟩:=lN HT.o.o2;have HT:=zh HT.o;have zx:Y0 ((b.loads.take 0).map (fun x=>(⟨b.len-x.pos,x.wt⟩:LoadT))=[]):=rfl;clear hm hXS hlx;have d3:=HT.o.d0.cell 3;simp only[aG,aH,aD] at d3;go_wp2_with fail;go_loopw [5] (fun kx wr=>∃k:Nat,k≤b.loads.length∧kx=.int .i64 k∧∃v3,Y0 (TnQ w wr b As cs Al cl (.slice A2 XS.length k2) v3 XS ((b.loads.take k).map (fun x=>(⟨b.len-x.pos,x.wt⟩:LoadT))))) (fun kx _=>b.loads.length-(intOf kx).toNat)
  case atStart=>exact⟨0,yI _,rfl,_,by rw[zx.o];exact HT⟩
  clear HT zx d3;obtain⟨k,hk,rfl,v3,HT⟩:=hrel;have k0:(0:Int)≤(k:Int):=yE _;have a3:=HT.o.d0.cell 3;have a1:=HT.o.d0.cell 1;simp only[aG,aH,aD] at a3 a1;obtain⟨A3,k3,rfl⟩:=lN HT.o.o3;by_cases ay:k<b.loads.length
  ·have k1:(k:Int)<(b.loads.length:Int):=by omega
   obtain⟨b2,o2,rfl,ao,eG⟩:=zQ.o k ay;obtain⟨cB,dc⟩:=eG k ay;obtain⟨p1,p2,p3,p4⟩:=Hb.o.loads _ (yV ay);have HXs:=zh (qj0 b (k:=k) ay);have Ux:((b.loads.take k).map (fun x=>(⟨b.len-x.pos,x.wt⟩:LoadT))).length≤1000:=by rw[yP,YA];omega
   have HT:=zh HT.o;generalize (b.loads.take k).map (fun x=>(⟨b.len-x.pos,x.wt⟩:LoadT))=ys at*;generalize b.loads[k]=x at*;obtain⟨pos,wt⟩:=x;simp only at cB dc p1 p2 p3 p4;have v1:IntKind.i64.wrap (b.len-pos)=b.len-pos:=yF _ (by omega);generalize hn:ys.length=n at*;have T0:=HT.o.drew1;have T1:=T0.alloc1 (.cells #[.int .i64 (b.len-pos),.int .i64 wt] 40);have hN:Blk (wr.drew.alloc (.cells #[.int .i64 (b.len-pos),.int .i64 wt] 40)) wr.heap.size 40 #[.int .i64 (b.len-pos),.int .i64 wt]:=Blk.new wr.drew 40 #[.int .i64 (b.len-pos),.int .i64 wt]
   obtain⟨i0,jB,hH,jb,km⟩:=info_parts mT;obtain⟨g3,jn,wz,kA,Oe,vh,-,-⟩ := run_append_lies (P := Tryz.prog) (w := wr.drew.alloc (.cells #[.int .i64 (b.len - pos),.int .i64 wt] 40)) 41 41 w.heap.size 40 i0 _ 2 16 Tryz.underlying41 jB hH jb km rfl (by decide)
    (.slice A3 n k3) n (ys.flatMap LoadT.cells) (by have h:=T1.o3;rw[hn] at h;exact h) ⟨wr.heap.size,0,none⟩ 1 1 [.int .i64 (b.len-pos),.int .i64 wt] rfl
    (fun j u hu=>by rw[Addr.add_lit,yR];exact (hN.cell j).trans (by simpa using hu)) (fun u hu=>by simp at hu;rcases hu with rfl|rfl <;> rfl) (by omega) (by unfold maxLen;omega) (by omega) T1.bel.size _ rfl
   have hZ0:=m9 (W':=wz) T1.d0 T1.o3 vh (by decide);have hZ2:=m9 (W':=wz) T1.d2 T1.o3 vh (by decide);have T3:=T1.step3 (y:=⟨b.len-pos,wt⟩) (v':=.slice (some ⟨g3,0,none⟩) (n+1) jn) (w1:=wz) (by rw[hn];exact Oe) vh;have hBz:Below w.heap.size w wz:=T1.bel.grown vh T1.bel.size (fun k e=>by have:=T1.o3;rw[hn] at this;exact (this.lt k e).1);obtain⟨Wd,hW0,vj,vJ,Kv⟩:∃Wd:Nat→World,Wd 0=wr.drew∧Wd 1=wr.drew.alloc (.cells #[.int .i64 (b.len-pos),.int .i64 wt] 40)∧Wd 2=wz∧Wd 3=wz.setCell ⟨w.heap.size+1+1,3,none⟩ (.slice (some ⟨g3,0,none⟩) (n+1) jn) :=
    ⟨fun m=>if m=0 then wr.drew else if m=1 then wr.drew.alloc (.cells #[.int .i64 (b.len-pos),.int .i64 wt] 40) else if m=2 then wz else wz.setCell ⟨w.heap.size+1+1,3,none⟩ (.slice (some ⟨g3,0,none⟩) (n+1) jn),rfl,rfl,rfl,rfl⟩
   have Ku:∀m,m≤3→Below w.heap.size w (Wd m)∧Blk (Wd m) w.heap.size 43 (zC b As cs (some ⟨b2,o2,none⟩) cl):=fun m hm=>by
    rcases m with _|_|_|_|m
    ·rw[hW0];exact⟨T0.bel,T0.d0⟩
    ·rw[vj];exact⟨T1.bel,T1.d0⟩
    ·rw[vJ];exact⟨hBz,hZ0⟩
    ·rw[Kv];exact⟨T3.bel,T3.d0⟩
    omega
   have c1:∀m,m≤3→(Wd m).cell? ⟨w.heap.size,1,none⟩=some (.int .i64 b.len):=fun m hm=>((Ku m hm).2.cell 1).trans rfl;have c3:∀m,m≤3→(Wd m).cell? ⟨w.heap.size,3,none⟩=some (.slice (some ⟨b2,o2,none⟩) b.loads.length cl):=fun m hm=>((Ku m hm).2.cell 3).trans rfl;have x1:∀m,m≤3→(Wd m).cell? ⟨b2,o2+k*2,none⟩=some (.int .i64 pos):=fun m hm=>((Ku m hm).1.cell (p:=⟨b2,o2+k*2,none⟩) ao).trans cB;have x2:∀m,m≤3→(Wd m).cell? ⟨b2,o2+k*2+1,none⟩=some (.int .i64 wt):=fun m hm=>((Ku m hm).1.cell (p:=⟨b2,o2+k*2+1,none⟩) ao).trans dc
   have d3:∀m,m≤1→(Wd m).cell? ⟨w.heap.size+1+1,3,none⟩=some (.slice A3 n k3):=fun m hm=>by
    rcases m with _|_|m
    ·rw[hW0];exact (T0.d2.cell 3).trans rfl
    ·rw[vj];exact (T1.d2.cell 3).trans rfl
    omega
   have hz3:wz.cell? ⟨w.heap.size+1+1,3,none⟩=some (.slice A3 n k3):=(hZ2.cell 3).trans rfl;have hf3:=hZ2.frozen 3;have W0:=zh hW0;have W3:=zh Kv;have HT3:=zh T3;have vzD:∀i m,okM .any #[] [] i m=okM .any #[] [] i m:=fun _ _=>rfl;clear T0 T1 T3 Ku hZ0 hZ2 hBz Oe vh hN jB hH jb km eG HT cB dc vzD a1;go_upto_region 11 with fail;refine lI [.pointer (some ⟨w.heap.size+1+1,3,none⟩),.slice A3 n k3,.pointer (some ⟨w.heap.size,1,none⟩),.int .i64 b.len,.pointer (some ⟨w.heap.size,3,none⟩),.slice (some ⟨b2,o2,none⟩) b.loads.length cl,.int .i64 k,.pointer (some ⟨b2,o2+k*2,none⟩),.pointer (some ⟨b2,o2+k*2,none⟩),.int .i64 pos,.int .i64 (b.len-pos),
    .pointer (some ⟨w.heap.size,3,none⟩),.slice (some ⟨b2,o2,none⟩) b.loads.length cl,.int .i64 k,.pointer (some ⟨b2,o2+k*2,none⟩),.pointer (some ⟨b2,o2+k*2+1,none⟩),.int .i64 wt,.agg #[.int .i64 (b.len-pos),.int .i64 wt],.slice (some ⟨wr.heap.size,0,none⟩) 1 1,.slice (some ⟨g3,0,none⟩) (n+1) jn,.pointer (some ⟨w.heap.size+1+1,3,none⟩),undef] Wd [18,19,21] (by kernel_rfl) (by kernel_rfl) (by kernel_rfl) (by decide) (by rfl) W0.o ?_ ?_
   ·simp only[bD,Act.put,aC,aB,aA];simp only[mq];refine⟨?_,?_,?_,?_,?_,?_,?_,?_,?_,?_,?_,?_,?_,?_,?_,?_,?_,?_,?_,?_,?_,?_,trivial⟩
    ·exact .inl ⟨by decide,fun m hm bL=>by go_simp⟩
    ·exact .inl ⟨by decide,fun m hm bL=>by
      have Mf:m≤1:=by
       rcases m with _|_|_|_|m
       ·omega
       ·omega
       ·exact absurd (Eq.trans (a:=false) (by kernel_rfl) bL) Bool.false_ne_true
       ·exact absurd (Eq.trans (a:=false) (by kernel_rfl) bL) Bool.false_ne_true
       exact absurd hm (by show ¬m+4≤3;omega)
      have h:=d3 m Mf;go_simp⟩
    ·exact .inl ⟨by decide,fun m hm bL=>by go_simp⟩
    ·exact .inl ⟨by decide,fun m hm bL=>by have h:=c1 m hm;go_simp⟩
    ·exact .inl ⟨by decide,fun m hm bL=>by go_simp⟩
    ·exact .inl ⟨by decide,fun m hm bL=>by have h:=c3 m hm;go_simp⟩
    ·exact .inl ⟨by decide,fun m hm bL=>by go_simp⟩
    ·exact .inl ⟨by decide,fun m hm bL=>by go_simp⟩
    ·exact .inl ⟨by decide,fun m hm bL=>by go_simp⟩
    ·exact .inl ⟨by decide,fun m hm bL=>by have h:=x1 m hm;go_simp⟩
    ·exact .inl ⟨by decide,fun m hm bL=>by go_simp⟩
    ·exact .inl ⟨by decide,fun m hm bL=>by go_simp⟩
    ·exact .inl ⟨by decide,fun m hm bL=>by have h:=c3 m hm;go_simp⟩
    ·exact .inl ⟨by decide,fun m hm bL=>by go_simp⟩
    ·exact .inl ⟨by decide,fun m hm bL=>by go_simp⟩
    ·exact .inl ⟨by decide,fun m hm bL=>by go_simp⟩
    ·exact .inl ⟨by decide,fun m hm bL=>by have h:=x2 m hm;go_simp⟩
    ·exact .inl ⟨by decide,fun m hm bL=>by go_simp⟩
    ·exact .inr ⟨0,rfl,.inr (.inl (by rw[W0.o,vj];go_simp))⟩
    ·exact .inr ⟨1,rfl,.inr (.inl (by rw[vj,vJ];exact ng rfl (by go_simp) (by go_simp) kA))⟩
    ·exact .inl ⟨by decide,fun m hm bL=>by go_simp⟩
    exact .inr ⟨2,rfl,.inl ⟨rfl,by rw[vJ,W3.o];go_simp⟩⟩
   simp only[bD,Act.put,aC,aB,aA];have eW:Wd (List.length [18,19,21])=wz.setCell ⟨w.heap.size+1+1,3,none⟩ (.slice (some ⟨g3,0,none⟩) (n+1) jn):=W3.o;rw[eW];clear eW W3 W0 vj vJ c1 c3 x1 x2 d3 hz3 hf3 kA;generalize wz.setCell ⟨w.heap.size+1+1,3,none⟩ (.slice (some ⟨g3,0,none⟩) (n+1) jn)=W9 at*;go_wp2_with fail;go_roundw
   case rel=>exact⟨k+1,by omega,by go_num,_,by rw[HXs.o];exact HT3⟩
   simp[intOf] <;> omega
  obtain rfl:k=b.loads.length:=by omega
  rw[yT] at HT;generalize hYS:b.loads.map (fun x=>(⟨b.len-x.pos,x.wt⟩:LoadT))=YS at*;have HT:=zh HT.o;obtain⟨W9,h9⟩:=zo (((((wr.setCell ⟨w.heap.size+1,0,none⟩ (.string b.name)).setCell ⟨w.heap.size+1,1,none⟩ (.int .i64 b.len)).setCell ⟨w.heap.size+1,2,none⟩ (.slice A2 XS.length k2)).setCell ⟨w.heap.size+1,3,none⟩ (.slice A3 YS.length k3)).setCell ⟨w.heap.size+1,4,none⟩ (.int .i64 b.even));have HE:=zh (HT.o.fin HXS.o hYS h9)
  have d0:=HT.o.d2.cell 0;have d1:=HT.o.d2.cell 1;have d2:=HT.o.d2.cell 2;have d3:=HT.o.d2.cell 3;have d4:=HT.o.d2.cell 4;have r0:=HT.o.d1.cell 0;have r1:=HT.o.d1.cell 1;have r2:=HT.o.d1.cell 2;have r3:=HT.o.d1.cell 3;have r4:=HT.o.d1.cell 4;have f0:=HT.o.d1.frozen 0;have f1:=HT.o.d1.frozen 1;have f2:=HT.o.d1.frozen 2;have f3:=HT.o.d1.frozen 3;have f4:=HT.o.d1.frozen 4;simp only[aG,aH,aD] at d0 d1 d2 d3 d4 r0 r1 r2 r3 r4
  have H9:=zh h9;clear HT hYS h9;go_wp2_with fail;rw[H9.o];obtain⟨jz,hbe,hbm⟩:=HE.o;obtain⟨p0,p1,p2,p3,p4⟩:=jz.c5;refine YF (v:=.agg #[.string b.name,.int .i64 b.len,.slice A2 XS.length k2,.slice A3 YS.length k3,.int .i64 b.even]) (by simp[results,Tryz.results205,go_sem,p0,p1,p2,p3,p4]) rfl ?_;exact⟨hbe,_,rfl,hbm⟩
 obtain⟨bb,oo,rfl,ao,hc⟩:=HSc.o i (by omega);have hc0:=(HT.o.bel.cell (p:=⟨bb,oo+i,none⟩) ao).trans (hc i (by omega));have fU:∀o,(wr.alloc o).cell? ⟨bb,oo+i,none⟩=some (.int .i64 b.sup[i]):=fun o=>((HT.o.bel.alloc HT.o.bel.size o).cell (p:=⟨bb,oo+i,none⟩) ao).trans (hc i (by omega));have vxi:=Hb.o.sup i (by omega);have e9:ah b i=b.sup[i]:=by unfold ah;rw[List.getD_eq_getElem?_getD,List.getElem?_eq_getElem (by omega)];rfl
 rw[e9] at vxi;have HXs:=zh (XB b (i:=i) (by omega));have e0:((i+1:Nat):Int)-1=(i:Int):=by omega
 rw[e0];generalize (b.sup.drop (i+1)).reverse.map (b.len - ·)=xs at*;generalize b.sup[i]=s at*;obtain⟨kZ,jT⟩:=vxi;have i0:(0:Int)≤(i:Int):=yE _;have i1:(i:Int)<(b.sup.length:Int):=by omega
 have v1:IntKind.i64.wrap (b.len-s)=b.len-s:=yF _ (by omega);have v3:IntKind.i64.wrap ((i:Int)-1)=(i:Int)-1:=yF _ (by omega);have him:i≤b.sup.length:=by omega
 obtain⟨A2,k2,rfl⟩:=lN HT.o.o2;generalize hn:xs.length=n at*;have Ux:n≤1000:=by omega
 have a1:=HT.o.d0.cell 1;have a2:=HT.o.d0.cell 2;have a1':=fun o=>(HT.o.d0.alloc o).cell 1;have a2':=fun o=>(HT.o.d0.alloc o).cell 2;have d2:=HT.o.d2.cell 2;have d2':=fun o=>(HT.o.d2.alloc o).cell 2;simp only[aG,aH,aD] at a1 a2 a1' a2' d2 d2';have HTa:=HT.o.allocDrew (.cells #[.int .i64 (b.len-s)] 3);have HSo:Y0 (∀wz,((wr.alloc (.cells #[.int .i64 (b.len-s)] 3)).drew).grownBy wz (Value.slice A2 n k2).ownBlock→wz.frozen? ⟨w.heap.size+1+1,2,none⟩=false∧wz.cell? ⟨w.heap.size+1+1,2,none⟩=some (.slice A2 n k2)):=fun wz vh=>by
  have h:=m9 HTa.d2 HTa.o2 (by exact vh) (by decide);exact⟨h.frozen 2,h.cell 2⟩
 have Pd:Y0 (∀wz g3 jn,((wr.alloc (.cells #[.int .i64 (b.len-s)] 3)).drew).grownBy wz (Value.slice A2 n k2).ownBlock→wz.ownsRow w.heap.size 3 1 (.slice (some ⟨g3,0,none⟩) (n+1) jn) (n+1) (xs.map (Value.int .i64)++[.int .i64 (b.len-s)]) →
   TnQ w (wz.setCell ⟨w.heap.size+1+1,2,none⟩ (.slice (some ⟨g3,0,none⟩) (n+1) jn)) b (some ⟨bb,oo,none⟩) cs Al cl (.slice (some ⟨g3,0,none⟩) (n+1) jn) (.slice none 0 0) (xs++[b.len-s]) []):=fun wz g3 jn vh Oe=>HTa.step2 (by rw[hn];exact Oe) vh
 have PG:Y0 (((wr.alloc (.cells #[.int .i64 (b.len-s)] 3)).drew).ownsRow w.heap.size 3 1 (.slice A2 n k2) n (xs.map (Value.int .i64))∧w.heap.size≤((wr.alloc (.cells #[.int .i64 (b.len-s)] 3)).drew).heap.size∧Blk ((wr.alloc (.cells #[.int .i64 (b.len-s)] 3)).drew) wr.heap.size 3 #[.int .i64 (b.len-s)]):=⟨by have h:=HTa.o2;rw[hn] at h;exact h,HTa.bel.size,(Blk.new wr 3 #[.int .i64 (b.len-s)]).drewN 1⟩
 clear HTa HT hc hm hn hlx e9 e0 jJ;go_wp2_with fail;go_region_law (refine Iv rfl (.tmp 18) (.tmp 27) rfl PG.o.1 PG.o.2.1 PG.o.2.2 (by go_simp) (by go_simp) Ux ?_;intro g3 jn wz Oe vh;obtain⟨fz,cz⟩:=HSo.o wz vh;have HPv:=zh (Pd.o wz g3 jn vh Oe);clear Oe vh)
 all_goals
  clear hc0 fU a1 a2 a1' a2' d2 d2' fz cz HSo Pd PG;go_simp;go_wp2_with fail;go_roundw
  case rel=>exact⟨i,him,by go_num,_,by rw[HXs.o];exact HPv⟩
  simp[intOf] <;> omega
theorem FracsPost.one {l:List Rat} {w w':World} {e:Ending} (h:FracsPost l w e w'):∃A n c e1,e=.returned (.tuple #[.slice A n c,.int .i64 e1])∧Below w.heap.size w w'∧((dM l=true∧e1=0∧FrsAt w' w'.heap.size (.slice A n c) (l.map fM))∨(dM l=false∧e1=5∧A=none∧n=0∧c=0)):=by
 obtain⟨hb,⟨h1,v,rfl,h2⟩|⟨h1,rfl⟩⟩:=h
 ·have h3:FrsAt w' w'.heap.size v (l.map fM):=by
   have:=Flat.of_own h2;unfold FrsAt;rw[yP];exact this
  have h4:=h3;obtain⟨A,c,rfl,-⟩:=h4;exact⟨A,_,c,0,rfl,hb,.inl ⟨h1,rfl,h3⟩⟩
 exact⟨none,0,0,5,rfl,hb,.inr ⟨h1,rfl,rfl,rfl,rfl⟩⟩
theorem I6 (v:Value) (s:SetT) (w:World) (hv:SetAt w w.heap.size v s) (hn:SetNames s) (bL:cD s=true):Calls Tryz.prog 57 #[v] w (LinesPost s w):=by
 have hob:=oW bL;have hb:=ja hob;have hti:bN (eZ s)=true:=Eb (Ce bL).1;have HT:=zh (fun (u:Value) (w1:World) (h:BeamAt w1 w1.heap.size u (eZ s))=>Qs u (eZ s) w1 h hb);have HBm:=zh (fun W (h:Below w.heap.size w W)=>N3 v s W ((hv.below h (yA _)).mono h.size) bL);have HGi:=zh (fun u W h=>XL u (eZ s) W h hn.name (fun _=>HT.o));have Hb:=zh hb;have OZ:=zh hti;have MQ:Y0 (qL (eZ s)=0):=by
  unfold Y0 qL;rw[if_neg (by rw[hob];decide),if_neg (by rw[hti];decide)]
 have qY:=zh bL;have vzz:=hb.sup1.2;have HL:Y0 ((cd (eZ s)).length≤100):=by
  unfold Y0 cd;simp;omega
 obtain⟨Al,cl,Ai,ci,Ab,cb,rfl,-,-,-⟩:=hv;unfold fc at*;have sL:=zh (Blk.new w 26 (zA s Al cl Ai ci Ab cb));have cP:=zh ((yB _ w).alloc (yA _) (.cells (zA s Al cl Ai ci Ab cb) 26));clear hob hb hti hn bL vzz;go_enter Tryz.func57,Tryz.ntmps57;go_upto_region 1 with fail;generalize w.alloc (.cells (zA s Al cl Ai ci Ab cb) 26)=W1 at*;obtain⟨z0,z1,z2,z3,z4,z5,z6,z7,z8,z9,j8,fS,iT⟩:=sL.o.c13;go_wp2_with fail
 refine (HBm.o W1 cP.o).mono ?_;rintro e w2 ⟨aU,v2,rfl,hV2⟩;have hV3:=hV2;obtain⟨As,cs,A3,c3,rfl,-⟩:=hV3;have dZ:=zh (cP.o.trans (aU.mono cP.o.size));have lE:Below w2.heap.size w2 (w2.alloc (.cells (zC (eZ s) As cs A3 c3) 43)):=(yB _ _).alloc (yA _) _;have PF:=zh (hV2.grow lE);have cZ:=zh (dZ.o.trans (lE.mono dZ.o.size));have d9:=zh (Blk.new w2 43 (zC (eZ s) As cs A3 c3));clear aU hV2 lE HBm cP sL dZ z0 z1 z2 z3 z4 z5 z6 z7 z8 z9 j8 fS iT
 generalize gg:eZ s=b at*;have Hbs:=zh gg;clear gg;go_upto_region 2 with fail;generalize w2.alloc (.cells (zC b As cs A3 c3) 43)=W3 at*;obtain⟨y0,y1,y2,y3,y4⟩:=d9.o.c5;go_wp2_with fail;refine (HGi.o _ W3 PF.o).mono ?_;rintro e w4 ⟨rfl,bU⟩;rw[MQ.o];have HV4:=zh (PF.o.grow bU);have fI:=zh (cZ.o.trans (bU.mono cZ.o.size));have hd4:=d9.o.below bU d9.o.lt;clear y0 y1 y2 y3 y4;obtain⟨y0,y1,y2,y3,y4⟩:=hd4.c5
 clear bU hd4 PF cZ d9 HGi MQ;go_wp2_with fail;refine (Ei _ b w4 HV4.o Hb.o OZ.o HT.o).mono ?_;rintro e w5 ⟨aR,v5,rfl,K5⟩;have vzO:=K5;obtain⟨A5,c5,e5,-⟩:=vzO;have Ax:=zh K5;rw[e5] at Ax⊢;have cJ:=zh (fI.o.trans (aR.mono fI.o.size));clear aR K5 e5 y0 y1 y2 y3 y4 fI HV4;go_wp2_with fail;refine (qqi _ (cd b) 280000 w5 Ax.o (by decide) HL.o).mono ?_;rintro e w6 hF6;obtain⟨A6,n6,c6,e6,rfl,ie,hf6⟩:=hF6.one
 have HF6:=zh hf6;have kH:=zh (cJ.o.trans (ie.mono cJ.o.size));clear ie hf6 hF6 cJ Ax;have HEr:Y0 (Zs s=if dM (cd b) then 0 else 5):=by
  unfold Y0 Zs;rw[if_pos qY.o,Hbs.o]
 have HLl:Y0 (bR s=(cd b).map fM):=by
  unfold Y0 bR;rw[Hbs.o]
 go_wp2_with fail;refine YF (results_tmp2 rfl _ _ _) (by rfl) ?_;refine⟨kH.o,?_⟩;rcases HF6.o with⟨h1,rfl,h3⟩|⟨h1,rfl,rfl,rfl,rfl⟩
 ·exact .inl ⟨by rw[HEr.o,h1];rfl,_,rfl,by rw[HLl.o];exact h3⟩
 exact .inr ⟨by rw[HEr.o,h1];decide,by rw[HEr.o,h1];rfl⟩
def gS (g:Nat→Bool) (k:Nat):Bool:=decide (∀i,i<k→g i=true)
theorem lJ (g:Nat→Bool):gS g 0=true:=by unfold gS;simp
theorem rq {g:Nat→Bool} {k n:Nat} (hk:k<n) (h:g k=false):gS g n=false:=by
 unfold gS;rw[YD];intro hh;rw[hh k hk] at h;cases h
theorem jQ {g:Nat→Bool} {k:Nat} (h:gS g k=true) (h1:g k=true):gS g (k+1)=true:=by
 unfold gS at*;rw[yO] at*;intro i hi;rcases Nat.lt_succ_iff_lt_or_eq.1 hi with h2|rfl
 ·exact h i h2
 exact h1
theorem Ll {g:Nat→Bool} {n k:Nat} (h:gS g n=true) (hk:k<n):g k=true:=by
 unfold gS at h;rw[yO] at h;exact h k hk
theorem jZ {g:Nat→Bool} {n:Nat}:gS g n=true ↔ ∀i,i<n→g i=true:=by unfold gS;rw[decide_eq_true_iff]
