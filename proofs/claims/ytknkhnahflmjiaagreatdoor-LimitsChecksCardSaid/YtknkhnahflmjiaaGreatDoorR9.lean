/- L -/
import Derived.Test.YtknkhnahflmjiaaGreatDoorR8
import Derived.Test.YtknkhnahflmjiaaGreatDoorV7
namespace Go.Proofs.YtknkhnahflmjiaaGreatDoor
set_option maxRecDepth 100000
set_option maxHeartbeats 40000000
open Go.RowKit Go.Shelf
theorem Y6 (v:Value) (l:List Rat) (K:Nat) (w:World) (hv:EqsAt w v l K) (hK:K≤300000) (hl:l.length≤100):Calls Tryz.prog 154 #[v] w (FracsPost l w):=by
 obtain⟨A,c,rfl,kG,eH,hR⟩:=hv;unfold maxLen at eH;have HR:=zh hR;have HK:=zh hK;obtain⟨iF,tY,kO,kN,kM⟩:=info_parts oA;clear hR hK;go_enter Tryz.func154,Tryz.ntmps154;go_wp2_with fail;go_loopw [4,5] (fun ox ix wr=>∃k:Nat,k≤l.length∧ix=.int .i64 k∧Y0 (wr.ownsRow w.heap.size 23 2 ox k (((l.take k).map dM).flatMap FrT.cells))∧Y0 (gb (l.take k)=true)∧Y0 (Below w.heap.size w wr)) (fun _ ix _=>l.length-(intOf ix).toNat)
 case atStart=>exact⟨0,yI _,rfl,yJ _ _ _ _,rfl,yB _ _⟩
 obtain⟨k,hk,rfl,HO,HA,HB⟩:=hrel;have k0:(0:Int)≤(k:Int):=yE _;by_cases aK:k<l.length
 ·have k1:(k:Int)<(l.length:Int):=by omega
  obtain⟨g,rfl,hg,oR⟩:=HR.o (by omega);obtain⟨li,lk,kY,lg,lh,lj,kX,lf,y0,y1,y2,y3,hE⟩:=oR k aK;have HE:=zh hE;have y0:=(HB.o.cell (p:=⟨g,k*4,none⟩) hg).trans y0;have y1:=(HB.o.cell (p:=⟨g,k*4+1,none⟩) hg).trans y1;have y2:=(HB.o.cell (p:=⟨g,k*4+2,none⟩) hg).trans y2;have y3:=(HB.o.cell (p:=⟨g,k*4+3,none⟩) hg).trans y3;have LW:Y0 (l.take (k+1)=l.take k++[l[k]]):=bF l k aK;have iM:=zh (fun h:aC l[k]=false=>tt aK h)
  clear hE hg oR;generalize l[k]=q at*;go_wp2_with fail;refine (EZ _ q K _ (HE.o.grow HB.o) HK.o).mono ?_;rintro e w5 ⟨rfl,bf⟩;have dJ:=zh (HB.o.trans (bf.mono HB.o.size));have oJ:=zh (pR HO.o bf);clear bf y0 y1 y2 y3;cases hq:aC q
  case true=>
   rw[jY hq];have HQ:=zh hq;have gL:=dJ.o.size;have Tb:=zh ((oJ.o.alloc (.cells #[.int .i64 q.num,.int .i64 (q.den:Int)] 23)).alloc (.cells #[.int .i64 q.num,.int .i64 (q.den:Int)] 23));have mS:=yL (Blk.new (w5.alloc (.cells #[.int .i64 q.num,.int .i64 (q.den:Int)] 23)) 23 #[.int .i64 q.num,.int .i64 (q.den:Int)]);rw[yZ] at mS;have jD:=zh mS;have HAl:Y0 (gb (l.take (k+1))=true):=by
    unfold Y0;rw[LW.o];unfold gb;rw[List.all_append];have h:=HA.o;unfold gb at h;rw[h];simpa using HQ.o
   clear hq mS HO oJ;go_wp2_with (at_builtin;refine wpList_append_own _ rfl _ _ 42 rfl w.heap.size 23 iF (.agg #[.int .i64 0,.int .i64 0]) 2 16 Tryz.underlying42 tY kO kN kM rfl (by decide) _ _ _ rfl Tb.o ⟨w5.heap.size+1,0,none⟩ 1 1 [.int .i64 q.num,.int .i64 (q.den:Int)] rfl rfl jD.o (by simp[Value.oneCell']) (by unfold maxLen;omega) (by omega) (by simp;omega) ?_;intro v' w1 ip eO _;obtain⟨g',wA,rfl⟩:=ownsRow_succ ip)
   have fk:=((dJ.o.alloc gL (.cells #[.int .i64 q.num,.int .i64 (q.den:Int)] 23)).alloc (by simp;omega) (.cells #[.int .i64 q.num,.int .i64 (q.den:Int)] 23)).grown eO (by simp;omega) (fun j ej=>(Tb.o.lt j ej).1);have ni:=zh fk;have hO6:w1.ownsRow w.heap.size 23 2 (.slice (some ⟨g',0,none⟩) (k+1) wA) (k+1) (((l.take (k+1)).map dM).flatMap FrT.cells):=by
    rw[LW.o,List.map_append,List.flatMap_append];exact ip
   have M5:=zh hO6;clear fk hO6 ip eO Tb dJ HB HA;go_roundw
   case rel=>exact⟨k+1,by omega,by go_num,M5,HAl,ni⟩
   simp[intOf];omega
  rw[lG hq];have HQ:=zh (iM.o hq);have gL:=dJ.o.size;have ni:=zh (dJ.o.alloc gL (.cells #[.int .i64 0,.int .i64 0] 23));clear hq HO oJ;go_wp2_with fail;refine YF (results_tmp2 rfl _ _ _) (by rfl) ?_;exact⟨ni.o,.inr ⟨HQ.o,rfl⟩⟩
 obtain rfl:k=l.length:=by omega
 rw[yT] at HO HA;go_wp2_with fail;refine YF (results_tmp2 rfl _ _ _) (by rfl) ?_;exact⟨HB.o,.inl ⟨HA.o,_,rfl,HO.o⟩⟩
theorem Na (x:Rat):(rR x==0)=decide (x=0):=by
 unfold rR;by_cases h:x=0
 ·subst h;rfl
 rw[yC h,beq_eq_false_iff_ne];by_cases h1:x<0
 ·rw[if_pos h1];decide
 rw[if_neg h1,if_neg h];decide
def gCs (v0:Value):GPost:=⟨fun v=>v=v0,fun _ _=>True,⟨_,rfl⟩,fun _ _ _ _ _=>trivial,false⟩
theorem MN {b:BeamT} (hb:BeamOk b) (h1:b.sup.length=1):(rR (dC b (ai b 0)-dC (ao b) (b.len-ai b 0))==0)=cK b:=by
 have h2:=tc hb;rw[h1] at h2;have h3:(0:Rat)-dC b (ai b 0)=bG b:=by rw[s6];rfl
 rw[Na];unfold cK;rw[if_pos h1,←h2,←h3];have e:b.sup.length-1=0:=by omega
 simp only[Nat.sub_self] at h2⊢;rw[decide_eq_decide];constructor
 ·intro h;grind
 intro h;grind
theorem Ug (v:Value) (b:BeamT) (w:World) (hv:BeamAt w w.heap.size v b) (hb:BeamOk b) (hT:∀(u:Value) (w1:World),BeamAt w1 w1.heap.size u b→Calls Tryz.prog 274 #[u] w1 (TurnedPost b w1)) :
  Calls Tryz.prog 205 #[v] w fun e w'=>e=.returned (.bool (!cK b))∧Below w.heap.size w w':=by
 have zj:=hv;obtain⟨As,cs,Al,cl,rfl,hS,-⟩:=hv;obtain⟨_,_,e,_,oR,td⟩:=hS.open_;injection e with e1 _ e2;subst e1 e2;have h1:=hb.sup1;have h4:=hb.sup 0 h1.1;unfold maxLen at oR;obtain⟨bs,os,rfl,gL,xZ⟩:=td 0 h1.1;have Rz:=xZ 0 h1.1;have e0:b.sup[0]'h1.1=ai b 0:=by unfold ai;rw[List.getD_eq_getElem?_getD,List.getElem?_eq_getElem h1.1];rfl
 rw[e0,Nat.add_zero] at Rz;have Hb:=zh hb;have HT:=zh hT;have HA0:=zh h4;have bE:=zh ((yB _ w).alloc (yA _) (.cells (zC b (some ⟨bs,os,none⟩) cs Al cl) 117));have HV:=zh (zj.grow bE.o);have cw:=zh (Blk.new w 117 (zC b (some ⟨bs,os,none⟩) cs Al cl));have z0:=(bE.o.cell (p:=⟨bs,os,none⟩) gL).trans Rz;have s0:(0:Int)<(b.sup.length:Int):=by omega
 have SY:=zh (MN hb);have XP:Y0 (b.sup.length≠1→cK b=true):=fun h=>by unfold cK;rw[if_neg h]
 clear td xZ hb hS hT zj h4 e0 Rz;go_enter Tryz.func205,Tryz.ntmps205;go_upto_region 1 with fail;generalize w.alloc (.cells (zC b (some ⟨bs,os,none⟩) cs Al cl) 117)=W1 at*;obtain⟨y0,y1,y2,y3,y4⟩:=cw.o.c5;generalize ai b 0=sa at*;by_cases hn:b.sup.length=1
 ·have hd:((b.sup.length:Int)==1)=true:=beq_iff_eq.2 (by omega);have HTc:=zh (SY.o hn);clear hn SY XP;have wP:=YL y0;have wO:=YL y1;have xB:=YL y2;have xA:=YL y3;have uy4:=YL y4;have Tv:=YL z0;clear y0 y1 y2 y3 y4 z0;refine af 20 (fun jx=>if jx=10 then some (jw (dC b sa) 1270) else if jx=16 then some (jw (dC (ao b) (b.len-sa)) 1270) else if jx=17 then some (gCs (.int .i64 (rR (dC b sa-dC (ao b) (b.len-sa))))) else none) (by kernel_rfl) (by kernel_rfl) ?_
  simp only[aO,aR,aP,aQ]
  first|refine ay (by first|rfl|go_simp) rfl rfl ?_|refine aM rfl (by first|rfl|go_simp) rfl ?_
  go_big_quiet_step (fail);refine YE ?_
  first|refine ay (by first|rfl|go_simp) rfl rfl ?_|refine aM rfl (by first|rfl|go_simp) rfl ?_
  go_big_quiet_step (fail);refine YE ?_
  first|refine ay (by first|rfl|go_simp) rfl rfl ?_|refine aM rfl (by first|rfl|go_simp) rfl ?_
  go_big_quiet_step (fail);refine YE ?_
  first|refine ay (by first|rfl|go_simp) rfl rfl ?_|refine aM rfl (by first|rfl|go_simp) rfl ?_
  go_big_quiet_step (fail);refine YE ?_
  first|refine ay (by first|rfl|go_simp) rfl rfl ?_|refine aM rfl (by first|rfl|go_simp) rfl ?_
  go_big_quiet_step (fail);refine YE ?_
  first|refine ay (by first|rfl|go_simp) rfl rfl ?_|refine aM rfl (by first|rfl|go_simp) rfl ?_
  go_big_quiet_step (fail);refine YE ?_
  first|refine ay (by first|rfl|go_simp) rfl rfl ?_|refine aM rfl (by first|rfl|go_simp) rfl ?_
  go_big_quiet_step (fail);refine YE ?_
  first|refine ay (by first|rfl|go_simp) rfl rfl ?_|refine aM rfl (by first|rfl|go_simp) rfl ?_
  go_big_quiet_step (fail);refine YE ?_
  first|refine ay (by first|rfl|go_simp) rfl rfl ?_|refine aM rfl (by first|rfl|go_simp) rfl ?_
  go_big_quiet_step (fail);refine YE ?_
  first|refine ay (by first|rfl|go_simp) rfl rfl ?_|refine aM rfl (by first|rfl|go_simp) rfl ?_
  go_big_quiet_step (fail);refine YE ?_;refine jF (by first|rfl|go_simp) rfl (fun w1 ak _=>⟨248,#[.agg (zC b (some ⟨bs,os,none⟩) cs Al cl),.int .i64 sa],by go_simp,Zg (EY _ b sa w1 (HV.o.grow ak) Hb.o HA0.o.1 HA0.o.2)⟩) ?_;rintro _ ⟨Xp,Xr,Xl,Xn,Xo,Xq,Xk,Xm,rfl⟩;simp only[Act.put,aw,av,au]
  first|refine ay (by first|rfl|go_simp) rfl rfl ?_|refine aM rfl (by first|rfl|go_simp) rfl ?_
  go_big_quiet_step (fail);refine YE ?_
  first|refine ay (by first|rfl|go_simp) rfl rfl ?_|refine aM rfl (by first|rfl|go_simp) rfl ?_
  go_big_quiet_step (fail);refine YE ?_
  first|refine ay (by first|rfl|go_simp) rfl rfl ?_|refine aM rfl (by first|rfl|go_simp) rfl ?_
  go_big_quiet_step (fail);refine YE ?_
  first|refine ay (by first|rfl|go_simp) rfl rfl ?_|refine aM rfl (by first|rfl|go_simp) rfl ?_
  go_big_quiet_step (fail);refine YE ?_
  first|refine ay (by first|rfl|go_simp) rfl rfl ?_|refine aM rfl (by first|rfl|go_simp) rfl ?_
  go_big_quiet_step (fail);refine YE ?_;refine jF (by first|rfl|go_simp) rfl (fun w1 ak _=>⟨249,#[.agg (zC b (some ⟨bs,os,none⟩) cs Al cl),.int .i64 sa],by go_simp,Zg (xJ _ b sa w1 (HV.o.grow ak) Hb.o HA0.o.1 HA0.o.2 HT.o)⟩) ?_;rintro _ ⟨Xh,Xj,Xd,Xf,Xg,Xi,Xc,Xe,rfl⟩;simp only[Act.put,aw,av,au];refine jF (by first|rfl|go_simp) rfl ?_ ?_
  ·intro w1 ak hk;have Df:ExqAt w1 w1.heap.size (.agg (zD Xp Xr Xl Xn Xo Xq Xk Xm)) (dC b sa) (1270):=hk 13 zk;have h19:ExqAt w1 w1.heap.size (.agg (zD Xh Xj Xd Xf Xg Xi Xc Xe)) (dC (ao b) (b.len-sa)) (1270):=hk 19 zk;exact⟨247,#[.agg (zD Xp Xr Xl Xn Xo Xq Xk Xm),.agg (zD Xh Xj Xd Xf Xg Xi Xc Xe)],by go_simp,(qzr _ _ (dC b sa) (dC (ao b) (b.len-sa)) 1270 1270 w1 Df h19 (by decide)).mono fun _ _ hp=>⟨_,hp.1,hp.2,rfl,trivial⟩⟩
  rintro _ rfl;simp only[Act.put,aw,av,au];have HTd:Y0 ((!(rR (dC b sa-dC (ao b) (b.len-sa))==0)) = !cK b):=by unfold Y0;rw[HTc.o]
  generalize rR (dC b sa-dC (ao b) (b.len-sa))=z at*
  first|refine ay (by first|rfl|go_simp) rfl rfl ?_|refine aM rfl (by first|rfl|go_simp) rfl ?_
  go_big_quiet_step (fail);refine YE ?_
  first|refine ay (by first|rfl|go_simp) rfl rfl ?_|refine aM rfl (by first|rfl|go_simp) rfl ?_
  go_big_quiet_step (fail);refine YE ?_;refine Zc ?_;intro w8 aT hF;have eG:=zh (bE.o.trans (aT.mono bE.o.size));clear hF aT;go_wp2_with fail;go_ret;exact⟨congrArg (fun x=>Ending.returned (.bool x)) HTd.o,eG.o⟩
 have hd:((b.sup.length:Int)==1)=false:=zb (by omega);have HTd:Y0 (false = !cK b):=by unfold Y0;rw[XP.o hn];rfl
 have eG:=zh (Zf bE.o);clear hn SY XP;go_quiet (fail);go_wp2_with fail;go_ret;exact⟨congrArg (fun x=>Ending.returned (.bool x)) HTd.o,eG.o _⟩
theorem SJ {b:BeamT} {k:Nat} (hk:k<b.loads.length) (h:cL b.len b.loads[k]=false):dq b=false:=by
 unfold dq
 have:b.loads.all (cL b.len)=false:=by
  rw[List.all_eq_false];exact⟨b.loads[k],yV hk,by rw[h];decide⟩
 rw[this,Bool.and_false]
theorem V8 {b:BeamT} (h1:de b=true) (h2:cU b b.sup.length=true) (h3:(b.loads.take b.loads.length).all (cL b.len)=true):dq b=true:=by
 rw[yT] at h3;unfold dq;rw[h1,h2,h3];rfl
theorem Uf (v:Value) (b:BeamT) (w:World) (hv:BeamAt w w.heap.size v b) (hn:b.name.size≤maxLen):Calls Tryz.prog 204 #[v] w fun e w'=>e=.returned (.bool (dq b))∧Below w.heap.size w w':=by
 obtain⟨As,cs,Al,cl,rfl,hS,hL⟩:=hv;have HN:=fun W=>o7 b.name hn W;obtain⟨_,_,e,mz,lQ,td⟩:=hS.open_;injection e with e1 _ e2;subst e1 e2;obtain⟨_,_,e,Be,CV,nQ⟩:=hL.open_;injection e with e1 _ e2;subst e1 e2;unfold maxLen at lQ CV;have M3:=zh td;have uw:=zh nQ;have HD:=zh (Blk.new w 117 (zC b As cs Al cl));have HB:=zh ((yB _ w).alloc (yA _) (.cells (zC b As cs Al cl) 117));clear hS td hn hL nQ;go_enter Tryz.func204,Tryz.ntmps204
 go_wp2_with (exact zX);generalize w.alloc (.cells (zC b As cs Al cl) 117)=W1 at*;obtain⟨y0,y1,y2,y3,y4⟩:=HD.o.c5;have qR:=HN W1;cases d0:dW b.name
 ·rw[d0] at qR;have HV:Y0 (dq b=false):=by unfold Y0;refine cN ?_;unfold de;simp only[d0];rfl
  go_wp2_with (go_at_call 90;refine qR.mono ?_;rintro e w' ⟨rfl,rfl⟩);go_ret;exact⟨Ze HV.o.symm,HB.o⟩
 rw[d0] at qR;by_cases c1:b.len<1
 ·have d1:decide (b.len<1)=true:=yD c1;have HV:Y0 (dq b=false):=by unfold Y0;refine cN ?_;unfold de;simp only[d0,d1];rfl
  go_wp2_with (go_at_call 90;refine qR.mono ?_;rintro e w' ⟨rfl,rfl⟩);go_ret;exact⟨Ze HV.o.symm,HB.o⟩
 have d1:decide (b.len<1)=false:=yC c1;by_cases c2:1048576<b.len
 ·have d2:decide (1048576<b.len)=true:=yD c2;have HV:Y0 (dq b=false):=by unfold Y0;refine cN ?_;unfold de;simp only[d0,d1,d2];rfl
  go_wp2_with (go_at_call 90;refine qR.mono ?_;rintro e w' ⟨rfl,rfl⟩);go_ret;exact⟨Ze HV.o.symm,HB.o⟩
 have d2:decide (1048576<b.len)=false:=yC c2;by_cases c3:b.even<0
 ·have d3:decide (b.even<0)=true:=yD c3;have HV:Y0 (dq b=false):=by unfold Y0;refine cN ?_;unfold de;simp only[d0,d1,d2,d3];rfl
  go_wp2_with (go_at_call 90;refine qR.mono ?_;rintro e w' ⟨rfl,rfl⟩);go_ret;exact⟨Ze HV.o.symm,HB.o⟩
 have d3:decide (b.even<0)=false:=yC c3;by_cases c4:1048576<b.even
 ·have d4:decide (1048576<b.even)=true:=yD c4;have HV:Y0 (dq b=false):=by unfold Y0;refine cN ?_;unfold de;simp only[d0,d1,d2,d3,d4];rfl
  go_wp2_with (go_at_call 90;refine qR.mono ?_;rintro e w' ⟨rfl,rfl⟩);go_ret;exact⟨Ze HV.o.symm,HB.o⟩
 have d4:decide (1048576<b.even)=false:=yC c4;by_cases c5:(b.sup.length:Int)<1
 ·have d5:decide ((b.sup.length:Int)<1)=true:=yD c5;have HV:Y0 (dq b=false):=by unfold Y0;refine cN ?_;unfold de;simp only[d0,d1,d2,d3,d4,d5];rfl
  go_wp2_with (go_at_call 90;refine qR.mono ?_;rintro e w' ⟨rfl,rfl⟩);go_ret;exact⟨Ze HV.o.symm,HB.o⟩
 have d5:decide ((b.sup.length:Int)<1)=false:=yC c5;by_cases c6:10<(b.sup.length:Int)
 ·have d6:decide (10<(b.sup.length:Int))=true:=yD c6;have HV:Y0 (dq b=false):=by unfold Y0;refine cN ?_;unfold de;simp only[d0,d1,d2,d3,d4,d5,d6];rfl
  go_wp2_with (go_at_call 90;refine qR.mono ?_;rintro e w' ⟨rfl,rfl⟩);go_ret;exact⟨Ze HV.o.symm,HB.o⟩
 have d6:decide (10<(b.sup.length:Int))=false:=yC c6;by_cases c7:40<(b.loads.length:Int)
 ·have d7:decide (40<(b.loads.length:Int))=true:=yD c7;have HV:Y0 (dq b=false):=by unfold Y0;refine cN ?_;unfold de;simp only[d0,d1,d2,d3,d4,d5,d6,d7];rfl
  go_wp2_with (go_at_call 90;refine qR.mono ?_;rintro e w' ⟨rfl,rfl⟩);go_ret;exact⟨Ze HV.o.symm,HB.o⟩
 have d7:decide (40<(b.loads.length:Int))=false:=yC c7;have HH:Y0 (de b=true):=by unfold Y0 de;simp only[d0,d1,d2,d3,d4,d5,d6,d7];rfl
 obtain⟨bs,os,rfl,gL,xZ⟩:=M3.o 0 (by omega);have mI:Y0 (∀j,j<b.sup.length→W1.cell? ⟨bs,os+j,none⟩=some (.int .i64 (ai b j))):=fun j hj=>by
  have h:=(HB.o.cell (p:=⟨bs,os+j,none⟩) gL).trans (xZ j hj);unfold ai;rw[yO,yN hj];exact h
 clear xZ M3;go_wp2_with (go_at_call 90;refine qR.mono ?_;rintro e w' ⟨rfl,rfl⟩);go_loopw [3] (fun x wr=>∃k:Nat,k≤b.sup.length∧x=.int .i64 k∧Y0 (cU b k=true)∧∃q,W1.drewN q=wr) (fun x _=>b.sup.length-(intOf x).toNat)
 case atStart=>exact⟨0,yI _,rfl,oY b,0,rfl⟩
 obtain⟨k,hk,rfl,HG,q,rfl⟩:=hrel;by_cases aI:k<b.sup.length
 ·have z:=mI.o k aI;have i1:(0:Int)≤(k:Int):=yE _;have i2:(k:Int)<(b.sup.length:Int):=by omega
  by_cases e1:ai b k<0
  ·have f1:decide (ai b k<0)=true:=yD e1;have HV:Y0 (dq b=false):=ly aI (by unfold eQ;rw[f1];rfl);go_wp2_with fail;go_quiet (fail);go_wp2_with fail;go_ret;exact⟨Ze HV.o.symm,Zf (Zf HB.o _) _⟩
  have f1:decide (ai b k<0)=false:=yC e1;by_cases e2:b.len<ai b k
  ·have f2:decide (b.len<ai b k)=true:=yD e2;have HV:Y0 (dq b=false):=ly aI (by unfold eQ;rw[f1,f2];rfl);go_wp2_with fail;go_quiet (fail);go_wp2_with fail;go_ret;exact⟨Ze HV.o.symm,Zf (Zf HB.o _) _⟩
  have f2:decide (b.len<ai b k)=false:=yC e2;by_cases e3:k=0
  ·have f3':¬(0:Int)<(k:Int):=by omega
   have f3:decide ((0:Int)<(k:Int))=false:=yC f3';have f3n:decide (0<k)=false:=yC (by omega);have HV:Y0 (cU b (k+1)=true):=iY HG.o (by unfold eQ;rw[f1,f2,decide_eq_true e3];rfl);clear e3;go_wp2_with fail;go_quiet (fail);go_wp2_with fail;go_roundw
   case rel=>exact⟨k+1,aI,by go_num,HV,_,rfl⟩
   simp[intOf];omega
  have f3:decide ((0:Int)<(k:Int))=true:=yD (by omega);have f3n:decide (0<k)=true:=yD (by omega);have z0:=mI.o (k-1) (by omega);have i4:((k:Int)-1).toNat=k-1:=by omega
  have i5:(0:Int)≤(k:Int)-1:=by omega
  have i6:(k:Int)-1<(b.sup.length:Int):=by omega
  have v1:IntKind.i64.wrap ((k:Int)-1)=(k:Int)-1:=yF _ (by omega);have E3:Y0 (¬k=0):=e3;clear e3;by_cases e4:ai b k≤ai b (k-1)
  ·have f4:decide (ai b k≤ai b (k-1))=true:=yD e4;have HV:Y0 (dq b=false):=ly aI (by unfold eQ;rw[f1,f2,f4,decide_eq_false E3.o];rfl);go_wp2_with fail;go_quiet (fail);go_wp2_with fail;go_ret;exact⟨Ze HV.o.symm,Zf (Zf HB.o _) _⟩
  have f4:decide (ai b k≤ai b (k-1))=false:=yC e4;have HV:Y0 (cU b (k+1)=true):=iY HG.o (by unfold eQ;rw[f1,f2,f4,decide_eq_false E3.o];rfl);go_wp2_with fail;go_quiet (fail);go_wp2_with fail;go_roundw
  case rel=>exact⟨k+1,aI,by go_num,HV,_,rfl⟩
  simp[intOf];omega
 have GU:k=b.sup.length:=by omega
 subst GU;have HBq:=zh (Zf HB.o q);have Ba:=zh (HD.o.drewN q);clear y0 y1 y4 mI;go_wp2_with fail;have vqq:Y0 ((b.loads.take 0).all (cL b.len)=true):=rfl;generalize W1.drewN q=W2 at*;go_loopw [4] (fun x wr=>∃k:Nat,k≤b.loads.length∧x=.int .i64 k∧Y0 ((b.loads.take k).all (cL b.len)=true)∧Y0 (Below w.heap.size w wr∧Blk wr w.heap.size 117 (zC b (some ⟨bs,os,none⟩) cs Al cl))) (fun x _=>b.loads.length-(intOf x).toNat)
 case atStart=>exact⟨0,yI _,rfl,vqq,HBq.o,Ba.o⟩
 clear HBq Ba vqq HB HD y2 y3;obtain⟨k,hk,rfl,HA,HM⟩:=hrel;have y1:=HM.o.2.cell 1;have y3:=HM.o.2.cell 3;simp only[aB,aD,aA] at y1 y3;have i1:(0:Int)≤(k:Int):=yE _;by_cases aI:k<b.loads.length
 ·have i2:(k:Int)<(b.loads.length:Int):=by omega
  obtain⟨bl,ol,rfl,vO,dR⟩:=uw.o k aI;obtain⟨cG,dc⟩:=dR k aI;have cG:=(HM.o.1.cell (p:=⟨bl,ol+k*2,none⟩) vO).trans cG;have dc:=(HM.o.1.cell (p:=⟨bl,ol+k*2+1,none⟩) vO).trans dc;have iM:=zh (fun h=>SJ (b:=b) aI h);have oU:Y0 (cL b.len b.loads[k]=true→(b.loads.take (k+1)).all (cL b.len)=true):=fun h=>by
   rw[bF b.loads k aI,List.all_append,HA.o];simpa using h
  clear dR;generalize b.loads[k]=x at*;obtain⟨pos,wt⟩:=x;simp only at cG dc;have Wb:Y0 (Below w.heap.size w (wr.alloc (.cells #[.int .i64 pos,.int .i64 wt] 115))∧Blk (wr.alloc (.cells #[.int .i64 pos,.int .i64 wt] 115)) w.heap.size 117 (zC b (some ⟨bs,os,none⟩) cs (some ⟨bl,ol,none⟩) cl)):=⟨HM.o.1.alloc HM.o.1.size _,HM.o.2.alloc _⟩;have y1a:=Wb.o.2.cell 1;simp only[aB,aD,aA] at y1a;clear HM HA;by_cases c0:pos<0
  ·have d0:decide (pos<0)=true:=yD c0;have HV:Y0 (dq b=false):=iM.o (by unfold cL;simp only[d0];rfl);clear iM oU;go_wp2_with fail;go_ret;exact⟨Ze HV.o.symm,Wb.o.1⟩
  have d0:decide (pos<0)=false:=yC c0;by_cases c1:b.len<pos
  ·have d1:decide (b.len<pos)=true:=yD c1;have HV:Y0 (dq b=false):=iM.o (by unfold cL;simp only[d0,d1];rfl);clear iM oU;go_wp2_with fail;go_ret;exact⟨Ze HV.o.symm,Wb.o.1⟩
  have d1:decide (b.len<pos)=false:=yC c1;by_cases c2:wt<0
  ·have d2:decide (wt<0)=true:=yD c2;have HV:Y0 (dq b=false):=iM.o (by unfold cL;simp only[d0,d1,d2];rfl);clear iM oU;go_wp2_with fail;go_ret;exact⟨Ze HV.o.symm,Wb.o.1⟩
  have d2:decide (wt<0)=false:=yC c2;by_cases c3:67108864<wt
  ·have d3:decide (67108864<wt)=true:=yD c3;have HV:Y0 (dq b=false):=iM.o (by unfold cL;simp only[d0,d1,d2,d3];rfl);clear iM oU;go_wp2_with fail;go_ret;exact⟨Ze HV.o.symm,Wb.o.1⟩
  have d3:decide (67108864<wt)=false:=yC c3;have HV:=zh (oU.o (by unfold cL;simp only[d0,d1,d2,d3];rfl));clear iM oU;go_wp2_with fail;go_roundw
  case rel=>exact⟨k+1,aI,by go_num,HV,Wb⟩
  simp[intOf];omega
 have GU:k=b.loads.length:=by omega
 subst GU;have HV:=zh (V8 HH.o HG.o HA.o);go_wp2_with fail;go_ret;exact⟨Ze HV.o.symm,HM.o.1⟩
def qb (b:BeamT):Int:=if dq b=false then 1 else if cK b=false then 22 else 0
theorem Ui (v:Value) (b:BeamT) (w:World) (hv:BeamAt w w.heap.size v b) (hn:b.name.size≤maxLen) (hT:BeamOk b→∀(u:Value) (w1:World),BeamAt w1 w1.heap.size u b→Calls Tryz.prog 274 #[u] w1 (TurnedPost b w1)):Calls Tryz.prog 153 #[v] w fun e w'=>e=.returned (.int .i64 (qb b))∧Below w.heap.size w w':=by
 have zj:=hv;obtain⟨As,cs,Al,cl,rfl,-⟩:=hv;have HD:=zh (Blk.new w 117 (zC b As cs Al cl));have HB:=zh ((yB _ w).alloc (yA _) (.cells (zC b As cs Al cl) 117));have HV:=zh (zj.grow HB.o);have JW:=zh (fun u W h=>Uf u b W h hn);have SY:=zh (fun u h W hW=>Ug u b W hW h (hT h));clear zj hn hT;go_enter Tryz.func153,Tryz.ntmps153;go_upto_region 1 with fail;generalize w.alloc (.cells (zC b As cs Al cl) 117)=W1 at*
 obtain⟨y0,y1,y2,y3,y4⟩:=HD.o.c5;go_wp2_with fail;refine (JW.o _ W1 HV.o).mono ?_;rintro e w3 ⟨rfl,bZ⟩;have cY:=zh (HB.o.trans (bZ.mono HB.o.size));have AU:=zh (HV.o.grow bZ);have hd3:=HD.o.below bZ HD.o.lt;clear y0 y1 y2 y3 y4;obtain⟨y0,y1,y2,y3,y4⟩:=hd3.c5;clear bZ HB HV HD JW hd3;cases bM:dq b
 ·have HE:Y0 (qb b=1):=if_pos bM;clear bM;go_wp2_with fail;go_ret;exact⟨congrArg (fun x=>Ending.returned (.int .i64 x)) HE.o.symm,cY.o⟩
 have VO:=zh (j9 bM);have HE:Y0 (qb b=if cK b=false then 22 else 0):=if_neg (by rw[bM];decide);clear bM;go_wp2_with fail;refine (SY.o _ VO.o w3 AU.o).mono ?_;rintro e w4 ⟨rfl,bP⟩;have fj:=zh (cY.o.trans (bP.mono cY.o.size));clear bP y0 y1 y2 y3 y4;cases ht:cK b
 ·have gn:Y0 (qb b=22):=HE.o.trans (if_pos ht);clear ht HE;go_wp2_with fail;go_ret;exact⟨congrArg (fun x=>Ending.returned (.int .i64 x)) gn.o.symm,fj.o⟩
 have gn:Y0 (qb b=0):=HE.o.trans (if_neg (by rw[ht];decide));clear ht HE;go_wp2_with fail;go_ret;exact⟨congrArg (fun x=>Ending.returned (.int .i64 x)) gn.o.symm,fj.o⟩
