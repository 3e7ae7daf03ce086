/- Lemmas. -/
import Derived.Test.YtknkhnahflmjiaaGreatDoorR3
namespace Go.Proofs.YtknkhnahflmjiaaGreatDoor
set_option maxRecDepth 100000
set_option maxHeartbeats 40000000
open Go.RowKit Go.Shelf
structure RgFr (w wr:World) (g4 B:Nat) (s1 s2:Bool) (v1 v2:Value) (N M:Nat):Prop where
 bel:Below w.heap.size w wr
 gw:w.heap.size+1<g4
 gB:g4<B
 Bw:B≤wr.heap.size
 res:Blk wr (w.heap.size+1) 23 #[.int .i64 0,.int .i64 0]
 low:Blk wr g4 239 #[.bool s1,v1,.bool s2,v2]
 n1:dF wr B v1 N
 n2:dF wr B v2 M
section
variable {w wr w':World} {g4 B g6:Nat} {s1 s2:Bool} {v1 v2:Value} {N M:Nat} {cs:Array Value}
theorem RgFr.below (h:RgFr w wr g4 B s1 s2 v1 v2 N M) (hb:Below B wr w'):RgFr w w' g4 B s1 s2 v1 v2 N M :=
 have h1:=h.gw;have h2:=h.gB
 ⟨h.bel.trans (hb.mono (by omega)),h1,h2,yH h.Bw hb.size,h.res.below hb (by omega),h.low.below hb h2,DgTo.below h.n1 hb (yA _),DgTo.below h.n2 hb (yA _)⟩
theorem RgFr.up (h:RgFr w wr g4 B s1 s2 v1 v2 N M):RgFr w wr g4 wr.heap.size s1 s2 v1 v2 N M :=
 ⟨h.bel,h.gw,yK h.gB h.Bw,yA _,h.res,h.low,DgTo.mono h.n1 h.Bw,DgTo.mono h.n2 h.Bw⟩
theorem RgFr.grow (h:RgFr w wr g4 B s1 s2 v1 v2 N M) (hb:Below wr.heap.size wr w'):RgFr w w' g4 w'.heap.size s1 s2 v1 v2 N M:=(h.up.below hb).up
theorem RgFr.set (h:RgFr w wr g4 B s1 s2 v1 v2 N M) (hb:Blk wr B 23 cs) (i:Nat) (u:Value):RgFr w (wr.setCell ⟨B,i,none⟩ u) g4 B s1 s2 v1 v2 N M∧Blk (wr.setCell ⟨B,i,none⟩ u) B 23 (cs.setIfInBounds i u) :=
 ⟨h.below ((yB _ wr).setCell (p:=⟨B,i,none⟩) (yA _) _),hb.set_ i u⟩
end
theorem J9 (N i:Nat):16777216*(N/16777216^(i+1))+aH N i=N/16777216^i:=by
 rw[yW,←YB];exact YI _ _
theorem Y5 {x:Rat} (s:Bool) (hs:s=decide (x.num<0)):(s=true→x.num=-(x.num.natAbs:Int))∧(s=false→x.num=(x.num.natAbs:Int)):=by
 subst hs;exact⟨fun h=>by have:=yG h;omega,fun h=>by have:=of_decide_eq_false h;omega⟩
theorem EZ (v:Value) (x:Rat) (K:Nat) (w:World) (hv:ExqAt w w.heap.size v x K) (hK:K≤300000) :
  Calls Tryz.prog 206 #[v] w fun e w'=>e=.returned (bQ x)∧Below w.heap.size w w':=by
 obtain⟨b1,A1,l1,c1,b2,A2,l2,c2,_,_,rfl,-⟩:=cf hv;have HK:=zh hK;have B1:=(Blk.new w 239 (zD b1 A1 l1 c1 b2 A2 l2 c2)).alloc (.cells #[.int .i64 0,.int .i64 0] 23);have B3:=Blk.new (w.alloc (.cells (zD b1 A1 l1 c1 b2 A2 l2 c2) 239)) 23 #[.int .i64 0,.int .i64 0];rw[yZ] at B3;have hbW:Below w.heap.size w ((w.alloc (.cells (zD b1 A1 l1 c1 b2 A2 l2 c2) 239)).alloc (.cells #[.int .i64 0,.int .i64 0] 23)):=((yB _ w).alloc (yA _) _).alloc (by simp) _
 have HV:=zh (hv.grow hbW);have HsW:Y0 (w.heap.size+2=((w.alloc (.cells (zD b1 A1 l1 c1 b2 A2 l2 c2) 239)).alloc (.cells #[.int .i64 0,.int .i64 0] 23)).heap.size):=by unfold Y0;simp
 have bE:=zh hbW;clear hv hK hbW;go_enter Tryz.func206,Tryz.ntmps206;go_upto_region 1 with fail;generalize (w.alloc (.cells (zD b1 A1 l1 c1 b2 A2 l2 c2) 239)).alloc (.cells #[.int .i64 0,.int .i64 0] 23)=W2 at*;have cw:=zh B1;have cY:=zh B3;obtain⟨q0,q1,q2,q3⟩:=cw.o.c4;clear B1 B3;go_wp2_with fail;refine (zv _ x K _ HV.o HK.o).mono ?_;rintro e w3 ⟨s1,v1,s2,v2,rfl,bZ,h1,h2⟩;have mz:=h1.1;have qo:=h1.2
 have mA:=h2.2;rw[Int.natAbs_natCast] at mA;have HSg:=zh (Y5 s1 mz);have HFo:Y0 (aC x=(decide (x.num.natAbs≤1152921504606846976)&&decide (x.den≤1152921504606846976))):=rfl;have HFv:Y0 (bQ x=if aC x=true then .tuple #[.agg #[.int .i64 x.num,.int .i64 (x.den:Int)],.int .i64 0] else .tuple #[.agg #[.int .i64 0,.int .i64 0],.int .i64 5]):=rfl;generalize x.num.natAbs=N at*;generalize x.den=M at*;obtain⟨A3,c3,rfl,hm3,hn3,-⟩:=DgTo.open_ qo
 obtain⟨A4,c4,rfl,hm4,hn4,-⟩:=DgTo.open_ mA;have mR:Y0 (RgFr w (w3.alloc (.cells (zD s1 A3 (ag N) c3 s2 A4 (ag M) c4) 239)) w3.heap.size (w3.alloc (.cells (zD s1 A3 (ag N) c3 s2 A4 (ag M) c4) 239)).heap.size s1 s2 (.slice A3 (ag N) c3) (.slice A4 (ag M) c4) N M):=by
  have lS:Below w3.heap.size w3 (w3.alloc (.cells (zD s1 A3 (ag N) c3 s2 A4 (ag M) c4) 239)):=(yB _ w3).alloc (yA _) _;have bf:=bE.o.trans (bZ.mono bE.o.size);have fO:=bZ.size;have hsw:=HsW.o;exact⟨bf.trans (lS.mono bf.size),by omega,by simp,yA _,(cY.o.below bZ cY.o.lt).alloc _,Blk.new _ _ _,DgTo.grow qo lS,DgTo.grow mA lS⟩
 clear h1 h2 bZ mz qo mA q0 q1 q2 q3 cw cY;unfold maxLen at hn3 hn4;go_upto_region 2 with fail;obtain⟨g4,hg4⟩:∃g4,g4=w3.heap.size:=⟨_,rfl⟩;rw[←hg4] at mR⊢;generalize w3.alloc (.cells (zD s1 A3 (ag N) c3 s2 A4 (ag M) c4) 239)=W4 at*;clear hg4;go_wp2_with fail;refine (xK 1152921504606846976 _ (by decide) (by decide)).mono ?_;rintro e w5 ⟨s5,v5,rfl,bf,h5⟩;have X5:=h5.2;obtain⟨QG,qju⟩:∃QG:Nat,QG=(1152921504606846976:Int).natAbs:=⟨_,rfl⟩
 rw[←qju] at X5;have VE:Y0 (QG=1152921504606846976):=qju;obtain⟨A5,c5,rfl,-⟩:=DgTo.open_ X5;have lS:Below w5.heap.size w5 (w5.alloc (.cells #[.bool s5,.slice A5 (ag QG) c5] 237)):=(yB _ w5).alloc (yA _) _;have qq:=zh (DgTo.grow X5 lS);have eP:=zh ((mR.o.grow bf).grow lS);have dJ:=zh (Blk.new w5 237 #[.bool s5,.slice A5 (ag QG) c5]);have VD:Y0 (w5.heap.size<(w5.alloc (.cells #[.bool s5,.slice A5 (ag QG) c5] 237)).heap.size):=by unfold Y0;simp
 clear h5 bf X5 lS mR qju;go_upto_region 3 with fail;obtain⟨g5,TB⟩:∃g5,g5=w5.heap.size:=⟨_,rfl⟩;rw[←TB] at dJ VD⊢;generalize w5.alloc (.cells #[.bool s5,.slice A5 (ag QG) c5] 237)=W6 at*;clear TB;have q1:=eP.o.low.cell 1;have q3:=eP.o.low.cell 3;have p1:=dJ.o.cell 1;simp only[aB,aD,aA] at q1 q3 p1;go_wp2_with fail;refine (lp _ _ N QG _ eP.o.n1 qq.o).mono ?_;rintro e w7 ⟨rfl,gu⟩;have dU:=zh (eP.o.grow gu)
 have Tj:=zh (DgTo.grow qq.o gu);have rF:=zh (dJ.o.below gu VD.o);have vww:=zh (yK VD.o gu.size);clear gu eP qq dJ VD q1 q3 p1;by_cases hN:QG<N
 ·have HF:bQ x=.tuple #[.agg #[.int .i64 0,.int .i64 0],.int .i64 5]:=by
   rw[HFv.o,HFo.o,if_neg]
   have:=VE.o;simp;omega
  rw[yD hN];have ey:=zh HF;have r0:=dU.o.res.cell 0;have r1:=dU.o.res.cell 1;have f0:=dU.o.res.frozen 0;have f1:=dU.o.res.frozen 1;simp only[aB,aD,aA] at r0 r1;have jm:=zh dU.o.bel;clear HF hN;go_wp2_with fail;have t0:=(((dU.o.res.set_ 0 (.int .i64 0)).set_ 1 (.int .i64 0))).cell 0;have t1:=(((dU.o.res.set_ 0 (.int .i64 0)).set_ 1 (.int .i64 0))).cell 1;simp only[aw,av,au,aB,aD,aA] at t0 t1;refine YF (v:=.tuple #[.agg #[.int .i64 0,.int .i64 0],.int .i64 5]) (by simp[results,Tryz.results206,go_sem,t0,t1]) rfl ?_
  exact⟨by rw[ey.o],(jm.o.setCell (p:=⟨w.heap.size+1,0,none⟩) (YH _) _).setCell (p:=⟨w.heap.size+1,1,none⟩) (YH _) _⟩
 rw[yC hN];have q3:=dU.o.low.cell 3;have p1:=rF.o.cell 1;simp only[aB,aD,aA] at q3 p1;have HNl:Y0 (N≤1152921504606846976):=by have:=VE.o;unfold Y0;omega
 clear hN;go_wp2_with fail;refine (lp _ _ M QG _ dU.o.n2 Tj.o).mono ?_;rintro e w8 ⟨rfl,aT⟩;have dv:=zh (dU.o.grow aT);clear aT dU Tj rF vww q3 p1;by_cases hN:QG<M
 ·have HF:bQ x=.tuple #[.agg #[.int .i64 0,.int .i64 0],.int .i64 5]:=by
   rw[HFv.o,HFo.o,if_neg]
   have:=VE.o;simp;omega
  rw[yD hN];have ey:=zh HF;have r0:=dv.o.res.cell 0;have r1:=dv.o.res.cell 1;have f0:=dv.o.res.frozen 0;have f1:=dv.o.res.frozen 1;simp only[aB,aD,aA] at r0 r1;have jm:=zh dv.o.bel;clear HF hN;go_wp2_with fail;have t0:=(((dv.o.res.set_ 0 (.int .i64 0)).set_ 1 (.int .i64 0))).cell 0;have t1:=(((dv.o.res.set_ 0 (.int .i64 0)).set_ 1 (.int .i64 0))).cell 1;simp only[aw,av,au,aB,aD,aA] at t0 t1;refine YF (v:=.tuple #[.agg #[.int .i64 0,.int .i64 0],.int .i64 5]) (by simp[results,Tryz.results206,go_sem,t0,t1]) rfl ?_
  exact⟨by rw[ey.o],(jm.o.setCell (p:=⟨w.heap.size+1,0,none⟩) (YH _) _).setCell (p:=⟨w.heap.size+1,1,none⟩) (YH _) _⟩
 rw[yC hN];have HMl:Y0 (M≤1152921504606846976):=by have:=VE.o;unfold Y0;omega
 have HFy:Y0 (bQ x=.tuple #[.agg #[.int .i64 x.num,.int .i64 (M:Int)],.int .i64 0]):=by
  have h1:=HNl.o;have h2:=HMl.o;unfold Y0;rw[HFv.o,HFo.o,if_pos];simp;omega
 clear hN HFv HFo;go_upto_region 6 with fail;have zl:Y0 (RgFr w (w8.alloc (.cells #[.int .i64 0,.int .i64 0] 23)) g4 w8.heap.size s1 s2 (.slice A3 (ag N) c3) (.slice A4 (ag M) c4) N M):=dv.o.below ((yB _ w8).alloc (yA _) _);have HAa:=zh (Blk.new w8 23 #[.int .i64 0,.int .i64 0]);obtain⟨g6,hg6⟩:∃g6,g6=w8.heap.size:=⟨_,rfl⟩;rw[←hg6] at zl HAa⊢;generalize w8.alloc (.cells #[.int .i64 0,.int .i64 0] 23)=W9 at*
 have HS:=zh zl.o;have HA:=zh HAa.o;have y1:=HS.o.low.cell 1;simp only[aB,aD,aA] at y1;clear zl HAa dv hg6;go_wp2_with fail;go_loopw [7] (fun kx wr=>∃m:Nat,m≤ag N∧kx=.int .i64 ((m:Int)-1)∧Y0 (RgFr w wr g4 g6 s1 s2 (.slice A3 (ag N) c3) (.slice A4 (ag M) c4) N M)∧Y0 (Blk wr g6 23 #[.int .i64 ((N/16777216^m:Nat):Int),.int .i64 0])) (fun kx _=>(intOf kx+1).toNat)
 case atStart=>exact⟨ag N,yA _,by go_num,HS,by rw[Nat.div_eq_of_lt (je N)];exact HA⟩
 clear HS HA;obtain⟨m,hm,rfl,HS,HA⟩:=hrel;have a0:=HA.o.cell 0;have f0:=HA.o.frozen 0;have y1:=HS.o.low.cell 1;have y0:=HS.o.low.cell 0;simp only[aB,aD,aA] at a0 y1 y0;rcases m with _|i
 ·rw[Nat.pow_zero,Nat.div_one] at HA;have y9:=HS.o.low.cell 3;simp only[aB,aD,aA] at y9;clear hm;go_wp2_with fail;go_loopw [8] (fun kx wr=>∃m:Nat,m≤ag M∧kx=.int .i64 ((m:Int)-1)∧Y0 (RgFr w wr g4 g6 s1 s2 (.slice A3 (ag N) c3) (.slice A4 (ag M) c4) N M)∧Y0 (Blk wr g6 23 #[.int .i64 (N:Int),.int .i64 ((M/16777216^m:Nat):Int)])) (fun kx _=>(intOf kx+1).toNat)
  case atStart=>exact⟨ag M,yA _,by go_num,HS,by rw[Nat.div_eq_of_lt (je M)];exact HA⟩
  clear HS HA;obtain⟨m,hm,rfl,HS,HA⟩:=hrel;have a1:=HA.o.cell 1;have f1:=HA.o.frozen 1;have y1:=HS.o.low.cell 3;have y0:=HS.o.low.cell 0;simp only[aB,aD,aA] at a1 y1 y0;rcases m with _|i
  ·rw[Nat.pow_zero,Nat.div_one] at HA;have HT:Y0 (∀(q:Int) (LQ:World),x.num=q→RgFr w LQ g4 g6 s1 s2 (.slice A3 (ag N) c3) (.slice A4 (ag M) c4) N M→Blk LQ g6 23 #[.int .i64 q,.int .i64 (M:Int)]→x.num=q∧Blk LQ g6 23 #[.int .i64 q,.int .i64 (M:Int)]∧Blk LQ (w.heap.size+1) 23 #[.int .i64 0,.int .i64 0]∧Below w.heap.size w LQ):=fun q LQ h1 h2 h3=>⟨h1,h3,h2.res,h2.bel⟩;have f0:=HA.o.frozen 0;have a0:=HA.o.cell 0
   rw[Nat.pow_zero,Nat.div_one] at a1;simp only[aB,aA] at a0;cases s1
   case' true=>
    have HX:=zh (HSg.o.1 rfl);have hNl:=HNl.o;have v5:IntKind.i64.wrap (0-(N:Int))=-(N:Int):=(yF _ (by omega)).trans (by omega);have v6:IntKind.i64.wrap (-(N:Int))=-(N:Int):=yF _ (by omega);have aW:=zh (HS.o.set HA.o 0 (.int .i64 (-(N:Int))));have HE:=zh (HT.o (-(N:Int)) _ HX.o aW.o.1 aW.o.2);clear hNl aW HT HX HA HS;go_upto_region 16 with fail;generalize wr.setCell ⟨g6,0,none⟩ (.int .i64 (-(N:Int)))=LQ at*
    generalize -(N:Int)=q at*
   case' false=>
    have HX:=zh (HSg.o.2 rfl);have HE:=zh (HT.o (N:Int) _ HX.o HS.o HA.o);clear HT HX HA HS;go_upto_region 16 with fail;generalize wr=LQ at*;generalize hq:(N:Int)=q at*
   all_goals
    obtain⟨eq,hA,hR,hB⟩:=HE.o;have eq:=zh eq;have hB:=zh hB;have z0:=hA.cell 0;have z1:=hA.cell 1;have r0:=hR.cell 0;have r1:=hR.cell 1;have k0:=hR.frozen 0;have k1:=hR.frozen 1;simp only[aB,aD,aA] at z0 z1 r0 r1;have HR:=zh hR;clear hA hR HE f0 f1 a0 a1 y0 y1;go_wp2_with fail;have t0:=((HR.o.set_ 0 (.int .i64 q)).set_ 1 (.int .i64 (M:Int))).cell 0;have t1:=((HR.o.set_ 0 (.int .i64 q)).set_ 1 (.int .i64 (M:Int))).cell 1
    simp only[aw,av,au,aB,aD,aA] at t0 t1;refine YF (v:=.tuple #[.agg #[.int .i64 q,.int .i64 (M:Int)],.int .i64 0]) (by simp[results,Tryz.results206,go_sem,t0,t1]) rfl ?_;exact⟨by rw[HFy.o,eq.o],(hB.o.setCell (p:=⟨w.heap.size+1,0,none⟩) (YH _) _).setCell (p:=⟨w.heap.size+1,1,none⟩) (YH _) _⟩
  obtain⟨_,_,e9,-,-,aL⟩:=DgTo.open_ HS.o.n2;injection e9 with e9 _ e10;subst e9 e10;obtain⟨bb,oo,e8,qV,hx8⟩:=aL i (by omega);subst e8;have y2:=hx8 i (by omega);have e0:((i+1:Nat):Int)-1=(i:Int):=by omega
  rw[e0];have HE:=zh (J9 M i);have qn:Y0 (M/16777216^i≤1152921504606846976):=yH (YK _ _) HMl.o;have iD:=qn.o;rw[←HE.o] at iD;have hg:=dK M i;generalize hz:M/16777216^(i+1)=z at*;generalize aH M i=d at*;have HZ:Y0 (∀u:Int,u=16777216*(z:Int)+(d:Int)→u=((M/16777216^i:Nat):Int)):=fun u hu=>by rw[hu,←HE.o];omega
  have v1:IntKind.i64.wrap (16777216*(z:Int))=16777216*(z:Int):=yF _ (by omega);have v2:IntKind.i64.wrap (16777216*(z:Int)+(d:Int))=16777216*(z:Int)+(d:Int):=yF _ (by omega);have v3:IntKind.i64.wrap ((i:Int)-1)=(i:Int)-1:=yF _ (by omega);have i1:(i:Int)<(ag M:Int):=by omega
  have hm':i<ag M:=by omega
  clear aL hx8 hz iD hm e0;have ua:=YL a1;have uy:=YL y1;have ud:=YL y2;clear y0 y2 a1 y1 f1;go_upto_region 13 with fail;refine af 11 (fun _=>none) (by kernel_rfl) (by kernel_rfl) ?_;simp only[aO,aR,aP,aQ];refine zw 11 ?_;simp only[aO,aR,aP,aQ]
  repeat (go_big_quiet_step (fail))
  refine YE ?_;refine Zc ?_;intro w9 fC hF;have mQ:=zh (HS.o.below (fC.mono HS.o.Bw));have Wc:=zh (HA.o.below fC HA.o.lt);have a9:=Wc.o.cell 1;have f9:=Wc.o.frozen 1;simp only[aB,aD,aA] at a9;have aW:=zh (mQ.o.set Wc.o 1 (.int .i64 (16777216*(z:Int)+(d:Int))));clear hF fC ua uy ud HS HA;go_wp2_with fail;go_roundw
  case rel=>exact⟨i,by omega,by go_num,aW.o.1,by rw[←HZ.o _ rfl];exact aW.o.2⟩
  simp[intOf] <;> omega
 obtain⟨_,_,e9,-,-,aL⟩:=DgTo.open_ HS.o.n1;injection e9 with e9 _ e10;subst e9 e10;obtain⟨bb,oo,e8,qV,hx8⟩:=aL i (by omega);subst e8;have y2:=hx8 i (by omega);have e0:((i+1:Nat):Int)-1=(i:Int):=by omega
 rw[e0];have HE:=zh (J9 N i);have qn:Y0 (N/16777216^i≤1152921504606846976):=yH (YK _ _) HNl.o;have iD:=qn.o;rw[←HE.o] at iD;have hg:=dK N i;generalize hz:N/16777216^(i+1)=z at*;generalize aH N i=d at*;have HZ:Y0 (∀u:Int,u=16777216*(z:Int)+(d:Int)→u=((N/16777216^i:Nat):Int)):=fun u hu=>by rw[hu,←HE.o];omega
 have v1:IntKind.i64.wrap (16777216*(z:Int))=16777216*(z:Int):=yF _ (by omega);have v2:IntKind.i64.wrap (16777216*(z:Int)+(d:Int))=16777216*(z:Int)+(d:Int):=yF _ (by omega);have v3:IntKind.i64.wrap ((i:Int)-1)=(i:Int)-1:=yF _ (by omega);have i1:(i:Int)<(ag N:Int):=by omega
 have hm':i<ag N:=by omega
 clear aL hx8 hz iD hm e0;have ua:=YL a0;have uy:=YL y1;have ud:=YL y2;clear y0 y2 a0 y1 f0;go_upto_region 9 with fail;refine af 11 (fun _=>none) (by kernel_rfl) (by kernel_rfl) ?_;simp only[aO,aR,aP,aQ];refine zw 11 ?_;simp only[aO,aR,aP,aQ]
 repeat (go_big_quiet_step (fail))
 refine YE ?_;refine Zc ?_;intro w9 fC hF;have mQ:=zh (HS.o.below (fC.mono HS.o.Bw));have Wc:=zh (HA.o.below fC HA.o.lt);have a9:=Wc.o.cell 0;have f9:=Wc.o.frozen 0;simp only[aB,aA] at a9;have aW:=zh (mQ.o.set Wc.o 0 (.int .i64 (16777216*(z:Int)+(d:Int))));clear hF fC ua uy ud HS HA;go_wp2_with fail;go_roundw
 case rel=>exact⟨i,by omega,by go_num,aW.o.1,by rw[←HZ.o _ rfl];exact aW.o.2⟩
 simp[intOf] <;> omega
theorem qg {n:Nat} (h:n≤1152921504606846976):ag n≤3:=jf (by show n<16777216^3;omega)
theorem C3 {l:List Int} (h:∀x∈l,x.natAbs ≤ 1152921504606846976):∀k,k ≤ l.length→ag (dB (l.take k)).natAbs ≤ 3 * k + 1
 | 0,_=>by
  show ag 1≤1;rw[wj];exact yA _
 | k+1,hk=>by
  have ih:=C3 h k (by omega);rw[bF l k (by omega),mn,Int.natAbs_mul];have h1:=iy ih (qg (h l[k] (yV (by omega))));omega
def BgBox (w:World) (D:Nat) (z:Int):Prop:=∃b A l c,Blk w D 237 #[.bool b,.slice A l c]∧BigAt w w.heap.size b (.slice A l c) z
theorem BgBox.grow {w w':World} {D:Nat} {z:Int} (h:BgBox w D z) (hb:Below w.heap.size w w'):BgBox w' D z:=by
 obtain⟨b,A,l,c,h1,h2⟩:=h;exact⟨b,A,l,c,h1.below hb h1.lt,h2.grow hb⟩
theorem BgBox.put {w:World} {D:Nat} {z z0:Int} (h0:BgBox w D z0) {b:Bool} {A:Option Addr} {l c:Nat} (h:BigAt w w.heap.size b (.slice A l c) z):BgBox ((w.setCell ⟨D,0,none⟩ (.bool b)).setCell ⟨D,1,none⟩ (.slice A l c)) D z:=by
 obtain⟨b0,A0,l0,c0,h1,-⟩:=h0;have z0:=h1.cell 0;have z1:=(h1.set_ 0 (.bool b)).cell 1;simp only[aB,aA] at z0;have g1:=DgTo.set h.2 z0 (fun z=>by simp) (.bool b);have g2:=DgTo.set g1 (u:=.slice A0 l0 c0) z1 (fun z=>by simp) (.slice A l c);exact⟨b,A,l,c,(h1.set_ 0 _).set_ 1 _,h.1,DgTo.mono g2 (by simp[World.setCell])⟩
theorem fF (by_:Int) (v:Value) (l:List Int) (w:World) (hv:ct w w.heap.size v l) (hl:l.length≤8) (hx:∀x∈l,x.natAbs≤1152921504606846976) (gj:0<by_) (ak:by_≤1152921504606846976) :
  Calls Tryz.prog 210 #[v,.int .i64 by_] w (eZ w (Zu by_ l) 30):=by
 obtain⟨A,c,rfl,kG,eH,aL⟩:=hv.open_;unfold maxLen at eH;have HX:=zh hx;have HC:=zh aL;have TM:=zh gj;have cw:=zh ak;have HR:=zh (Blk.new w 239 (zD false none 0 0 false none 0 0));have HB:=zh ((yB _ w).alloc (yA _) (.cells (zD false none 0 0 false none 0 0) 239));clear aL hv hx gj ak;go_enter Tryz.func210,Tryz.ntmps210;go_wp2_with fail;generalize w.alloc (.cells (zD false none 0 0 false none 0 0) 239)=W0 at*
 refine (xK 1 W0 (by decide) (by decide)).mono ?_;rintro e w1 ⟨n1,v1,rfl,ak,oF⟩;obtain⟨A1,c1,rfl,-⟩:=DgTo.open_ oF.2;generalize ag (1:Int).natAbs=l1 at*;have I0:=zh ((HR.o.below ak HR.o.lt).alloc (.cells #[.bool n1,.slice A1 l1 c1] 237));have Ia:=HB.o.trans (ak.mono HB.o.size);have Tp:=zh (Ia.alloc Ia.size (.cells #[.bool n1,.slice A1 l1 c1] 237));have wJ:Y0 (BgBox (w1.alloc (.cells #[.bool n1,.slice A1 l1 c1] 237)) w1.heap.size (dB (l.take 0))):=⟨n1,A1,l1,c1,Blk.new _ _ _,oF.grow ((yB _ _).alloc (yA _) _)⟩
 have M0:Y0 (w.heap.size<w1.heap.size):=yK HR.o.lt ak.size;clear HR HB ak oF Ia;go_wp2_with fail;generalize eo:w1.heap.size=D5 at*;clear eo;go_loopw [6] (fun ix wr=>∃k:Nat,k≤l.length∧ix=.int .i64 k∧Y0 (BgBox wr D5 (dB (l.take k)))∧Y0 (Blk wr w.heap.size 239 (zD false none 0 0 false none 0 0))∧Y0 (Below w.heap.size w wr)) (fun ix _=>l.length-(intOf ix).toNat)
 case atStart=>exact⟨0,yI _,rfl,wJ,I0,Tp⟩
 clear wJ I0 Tp;obtain⟨k,hk,rfl,HN,HR,HB⟩:=hrel;have k0:(0:Int)≤(k:Int):=yE _;obtain⟨nb,nA,nl,nc,Mw,hNn⟩:=HN.o;obtain⟨q0,q1⟩:=Mw.c2;have M6:=zh Mw;have Td:=zh hNn;have HPk:=zh (C3 HX.o k hk);clear Mw hNn;by_cases aK:k<l.length
 ·have k1:(k:Int)<(l.length:Int):=by omega
  obtain⟨b2,o2,rfl,aI,dR⟩:=HC.o k aK;have hx:=(HB.o.cell (p:=⟨b2,o2+k,none⟩) aI).trans (dR k aK);have HXk:=zh (HX.o l[k] (yV aK));have HP:Y0 (dB (l.take (k+1))=dB (l.take k)*l[k]):=by unfold Y0;rw[bF l k aK,mn]
  clear dR aI;generalize l[k]=x at*;go_upto_region 5 with fail;have u0:=YL q0;have u1:=YL q1;have ux:=YL hx;clear hx q0 q1;refine af 7 (fun i=>if i=5 then some (Ez x) else if i=6 then some (Ez (dB (l.take k)*x)) else none) (by kernel_rfl) (by kernel_rfl) ?_;simp only[aO,aR,aP,aQ];refine zw 5 ?_;simp only[aO,aR,aP,aQ]
  repeat (go_big_quiet_step (fail))
  refine YE ?_;refine ae rfl rfl (fun w1 ak _=>⟨250,#[.int .i64 x],by go_simp,ec (xK x w1 (by have:=HXk.o;omega) (by have:=HXk.o;omega))⟩) ?_;rintro _ ⟨rb,rA,rc,rfl⟩;simp only[Act.put,aw,av,au];refine ae rfl rfl ?_ ?_
  ·intro w1 ak UE;obtain⟨_,_,e17,h17⟩:∃s v,Value.agg #[.bool rb,.slice rA (ag x.natAbs) rc]=.agg #[.bool s,v]∧BigAt w1 w1.heap.size s v x:=UE 19 (by decide);cases e17;exact zc (ec (gH _ _ _ _ (dB (l.take k)) x w1 (Td.o.grow ak) h17 (by have:=HPk.o;omega) (by have:=qg HXk.o;omega)))
  rintro _ ⟨sb,sA,sc,rfl⟩;simp only[Act.put,aw,av,au];refine Zc ?_;intro w5 bf hF;obtain⟨_,_,e18,h18⟩:∃s v,Value.agg #[.bool sb,.slice sA (ag (dB (l.take k)*x).natAbs) sc]=.agg #[.bool s,v]∧BigAt w5 w5.heap.size s v (dB (l.take k)*x):=hF 20;cases e18;have dJ:=zh (HB.o.trans (bf.mono HB.o.size));have ou:=zh (HR.o.below bf HR.o.lt);have vR:=M6.o.below bf M6.o.lt;have q0:=vR.cell 0;have q1:=vR.cell 1
  have f0:=vR.frozen 0;have f1:=vR.frozen 1;simp only[aB,aD,aA] at q0 q1;generalize Tx:ag (dB (l.take k)*x).natAbs=sl at*;clear Tx;rw[←HP.o] at h18;have H18:=zh h18;have M7:=zh (HN.o.grow bf);clear hF u0 u1 ux h18 bf vR HP HN HR HB M6 Td;go_wp2_with fail;have LZ:=zh (M7.o.put H18.o);have ot:=zh ((ou.o.far (p:=⟨D5,0,none⟩) (Nat.ne_of_lt M0.o) (.bool sb)).far (p:=⟨D5,1,none⟩) (Nat.ne_of_lt M0.o) (.slice sA sl sc))
  have ni:=zh ((dJ.o.setCell (p:=⟨D5,0,none⟩) (YG M0.o) (.bool sb)).setCell (p:=⟨D5,1,none⟩) (YG M0.o) (.slice sA sl sc));clear q0 q1 f0 f1 H18 M7 ou dJ;go_roundw
  case rel=>exact⟨k+1,by omega,by go_num,LZ,ot,ni⟩
  simp[intOf];omega
 obtain rfl:k=l.length:=by omega
 rw[yT] at Td HPk;go_upto_region 6 with fail;have u0:=YL q0;have u1:=YL q1;clear q0 q1;refine af 4 (fun i=>if i=2 then some (Ez by_) else none) (by kernel_rfl) (by kernel_rfl) ?_;simp only[aO,aR,aP,aQ];refine zw 2 ?_;simp only[aO,aR,aP,aQ]
 repeat (go_big_quiet_step (fail))
 refine YE ?_;refine ae rfl rfl (fun w1 ak _=>⟨250,#[.int .i64 by_],by go_simp,ec (xK by_ w1 (by have:=TM.o;omega) cw.o)⟩) ?_;rintro _ ⟨rb,rA,rc,rfl⟩;simp only[Act.put,aw,av,au];refine zw 1 ?_;simp only[aO,aR,aP,aQ]
 repeat (go_big_quiet_step (fail))
 refine YE ?_;refine Zc ?_;intro w5 bf hF;obtain⟨_,_,e22,h22⟩:∃s v,Value.agg #[.bool rb,.slice rA (ag by_.natAbs) rc]=.agg #[.bool s,v]∧BigAt w5 w5.heap.size s v by_:=hF 23;cases e22;have HL:Y0 (ExqAt w5 w5.heap.size (.agg (zD nb nA nl nc rb rA (ag by_.natAbs) rc)) (Zu by_ l) 30):=⟨_,_,_,_,dB l,by_,rfl,Td.o.grow bf,h22,TM.o,by have:=HPk.o;omega,by have:=cw.o;have:=TM.o;have:=qg (n:=by_.natAbs) (by omega);omega,rfl⟩
 have eG:=zh (HB.o.trans (bf.mono HB.o.size));have bp:=zh (HR.o.below bf HR.o.lt);have dT:=zh (jd (w:=w) (yA _) eG.o bp.o HL.o);have q0:=bp.o.cell 0;have q1:=bp.o.cell 1;have q2:=bp.o.cell 2;have q3:=bp.o.cell 3;have f0:=bp.o.frozen 0;have f1:=bp.o.frozen 1;have f2:=bp.o.frozen 2;have f3:=bp.o.frozen 3;simp only[aB,aD,aA] at q0 q1 q2 q3;clear hF u0 u1 h22 bf HN HR HB M6 Td;go_wp2_with fail;refine YF (v:=.agg (zD nb nA nl nc rb rA (ag by_.natAbs) rc)) (by simp[results,Tryz.results210,go_sem,q0,q1,q2,q3]) rfl ?_
 exact⟨_,rfl,dT.o.1,dT.o.2⟩
theorem uI (w:World):Calls Tryz.prog 208 #[] w (eZ w 0 30):=by
 have HR:=zh (Blk.new w 239 (zD false none 0 0 false none 0 0));have HB:=zh ((yB _ w).alloc (yA _) (.cells (zD false none 0 0 false none 0 0) 239));go_enter Tryz.func208,Tryz.ntmps208;go_upto_region 1 with fail;generalize w.alloc (.cells (zD false none 0 0 false none 0 0) 239)=W0 at*;have HI:Y0 (ct (W0.alloc (.cells #[.int .i64 0] 3)) (W0.alloc (.cells #[.int .i64 0] 3)).heap.size (.slice (some ⟨W0.heap.size,0,none⟩) 1 1) [0]):=RowAt.of_own (vx W0 3 (.int .i64 0))
 have Wb:=zh (HB.o.alloc HB.o.size (.cells #[.int .i64 0] 3));have xx:=zh (HR.o.alloc (.cells #[.int .i64 0] 3));go_wp2_with fail;refine (fF 1 _ [0] _ HI.o (by decide) (by decide) (by decide) (by decide)).mono ?_;rintro e w5 ⟨v5,rfl,bf,h5⟩;obtain⟨s1,A1,l1,c1,s2,A2,l2,c2,_,_,rfl,-⟩:=cf h5;have HL:=zh h5;have eG:=zh (Wb.o.trans (bf.mono Wb.o.size));have bp:=zh (xx.o.below bf xx.o.lt);have dT:=zh (jd (w:=w) (yA _) eG.o bp.o HL.o)
 have q0:=bp.o.cell 0;have q1:=bp.o.cell 1;have q2:=bp.o.cell 2;have q3:=bp.o.cell 3;have f0:=bp.o.frozen 0;have f1:=bp.o.frozen 1;have f2:=bp.o.frozen 2;have f3:=bp.o.frozen 3;simp only[aB,aD,aA] at q0 q1 q2 q3;clear h5 bf;go_wp2_with fail;refine YF (v:=.agg (zD s1 A1 l1 c1 s2 A2 l2 c2)) (by simp[results,Tryz.results208,go_sem,q0,q1,q2,q3]) rfl ?_;have h0:Zu 1 [0]=0:=by decide
 have h1:=dT.o.2;rw[h0] at h1;exact⟨_,rfl,dT.o.1,h1⟩
def jr (b:BeamT) (a:Int) (k:Nat):Rat:=aN b (qW a) (Zu 2000 [b.even,a,a]) k
def dC (b:BeamT) (a:Int):Rat:=jr b a b.loads.length
def EqBox (w:World) (D:Nat) (q:Rat) (K:Nat):Prop:=∃b1 A1 l1 c1 b2 A2 l2 c2,Blk w D 239 #[.bool b1,.slice A1 l1 c1,.bool b2,.slice A2 l2 c2]∧ExqAt w w.heap.size (.agg #[.bool b1,.slice A1 l1 c1,.bool b2,.slice A2 l2 c2]) q K
theorem EqBox.grow {w w':World} {D:Nat} {q:Rat} {K:Nat} (h:EqBox w D q K) (hb:Below w.heap.size w w'):EqBox w' D q K:=by
 obtain⟨b1,A1,l1,c1,b2,A2,l2,c2,h1,h2⟩:=h;exact⟨b1,A1,l1,c1,b2,A2,l2,c2,h1.below hb h1.lt,h2.grow hb⟩
theorem EqBox.new {w:World} {q:Rat} {K:Nat} {b1:Bool} {A1:Option Addr} {l1 c1:Nat} {b2:Bool} {A2:Option Addr} {l2 c2:Nat} (h:ExqAt w w.heap.size (.agg (zD b1 A1 l1 c1 b2 A2 l2 c2)) q K):EqBox (w.alloc (.cells (zD b1 A1 l1 c1 b2 A2 l2 c2) 239)) w.heap.size q K :=
 ⟨b1,A1,l1,c1,b2,A2,l2,c2,Blk.new _ _ _,h.grow ((yB _ _).alloc (yA _) _)⟩
theorem EqBox.put {w:World} {D:Nat} {q q':Rat} {K K':Nat} (h0:EqBox w D q K) {b1:Bool} {A1:Option Addr} {l1 c1:Nat} {b2:Bool} {A2:Option Addr} {l2 c2:Nat} (hE:ExqAt w w.heap.size (.agg (zD b1 A1 l1 c1 b2 A2 l2 c2)) q' K') :
  EqBox ((((w.setCell ⟨D,0,none⟩ (.bool b1)).setCell ⟨D,1,none⟩ (.slice A1 l1 c1)).setCell ⟨D,2,none⟩ (.bool b2)).setCell ⟨D,3,none⟩ (.slice A2 l2 c2)) D q' K':=by
 obtain⟨x1,X1,y1,z1,x2,X2,y2,z2,hD,-⟩:=h0;have h1:=hD.set_ 0 (.bool b1);have h2:=h1.set_ 1 (.slice A1 l1 c1);have h3:=h2.set_ 2 (.bool b2);have t0:=hD.cell 0;have t1:=h1.cell 1;have t2:=h2.cell 2;have t3:=h3.cell 3;simp only[aB,aA] at t0;have fJ:∀ {v:Value} {x k:Nat},DgTo w w.heap.size v x k→DgTo ((((w.setCell ⟨D,0,none⟩ (.bool b1)).setCell ⟨D,1,none⟩ (.slice A1 l1 c1)).setCell ⟨D,2,none⟩ (.bool b2)).setCell ⟨D,3,none⟩ (.slice A2 l2 c2)) ((((w.setCell ⟨D,0,none⟩ (.bool b1)).setCell ⟨D,1,none⟩ (.slice A1 l1 c1)).setCell ⟨D,2,none⟩ (.bool b2)).setCell ⟨D,3,none⟩ (.slice A2 l2 c2)).heap.size v x k:=fun h=>by
  have g1:=DgTo.set h t0 (fun z=>by simp) (.bool b1);have g2:=DgTo.set g1 (u:=.slice X1 y1 z1) t1 (fun z=>by simp) (.slice A1 l1 c1);have g3:=DgTo.set g2 (u:=.bool x2) t2 (fun z=>by simp) (.bool b2);have g4:=DgTo.set g3 (u:=.slice X2 y2 z2) t3 (fun z=>by simp) (.slice A2 l2 c2);exact DgTo.mono g4 (by simp[World.setCell])
 obtain⟨_,_,_,_,N,E,e,h4,h5,h6⟩:=hE;cases e;exact⟨_,_,_,_,_,_,_,_,h3.set_ 3 (.slice A2 l2 c2),_,_,_,_,N,E,rfl,⟨h4.1,fJ h4.2⟩,⟨h5.1,fJ h5.2⟩,h6⟩
structure SumQ (w wr:World) (bx:Array Value) (Ds:Nat) (q:Rat) (K:Nat):Prop where
 bm:Blk wr w.heap.size 117 bx
 res:Blk wr (w.heap.size+1) 239 (zD false none 0 0 false none 0 0)
 sum:EqBox wr Ds q K
 bel:Below w.heap.size w wr
 far:w.heap.size+1<Ds
theorem SumQ.grow {w wr w':World} {bx:Array Value} {Ds:Nat} {q:Rat} {K:Nat} (h:SumQ w wr bx Ds q K) (hb:Below wr.heap.size wr w'):SumQ w w' bx Ds q K :=
 ⟨h.bm.below hb h.bm.lt,h.res.below hb h.res.lt,h.sum.grow hb,h.bel.trans (hb.mono h.bel.size),h.far⟩
theorem SumQ.more {w wr:World} {bx:Array Value} {Ds:Nat} {q:Rat} {K K':Nat} (h:SumQ w wr bx Ds q K) (hK:K≤K'):SumQ w wr bx Ds q K':=by
 obtain⟨x1,X1,y1,z1,x2,X2,y2,z2,hD,h1⟩:=h.sum;exact⟨h.bm,h.res,⟨x1,X1,y1,z1,x2,X2,y2,z2,hD,h1.more hK⟩,h.bel,h.far⟩
theorem SumQ.put {w wr:World} {bx:Array Value} {Ds:Nat} {q q':Rat} {K K':Nat} (h:SumQ w wr bx Ds q K) {b1:Bool} {A1:Option Addr} {l1 c1:Nat} {b2:Bool} {A2:Option Addr} {l2 c2:Nat} (hE:ExqAt wr wr.heap.size (.agg (zD b1 A1 l1 c1 b2 A2 l2 c2)) q' K') :
  SumQ w ((((wr.setCell ⟨Ds,0,none⟩ (.bool b1)).setCell ⟨Ds,1,none⟩ (.slice A1 l1 c1)).setCell ⟨Ds,2,none⟩ (.bool b2)).setCell ⟨Ds,3,none⟩ (.slice A2 l2 c2)) bx Ds q' K':=by
 have hf:=h.far;exact⟨h.bm.far4 (by omega) _ _ _ _,h.res.far4 (by omega) _ _ _ _,h.sum.put hE,bI h.bel (by omega) _ _ _ _,h.far⟩
theorem SumQ.start {w w1:World} {bx:Array Value} {q:Rat} {K:Nat} (hb:Below (w.heap.size + 2) ((w.alloc (.cells bx 117)).alloc (.cells (zD false none 0 0 false none 0 0) 239)) w1)
  {b1:Bool} {A1:Option Addr} {l1 c1:Nat} {b2:Bool} {A2:Option Addr} {l2 c2:Nat} (hE:ExqAt w1 w1.heap.size (.agg (zD b1 A1 l1 c1 b2 A2 l2 c2)) q K) :
  SumQ w (w1.alloc (.cells (zD b1 A1 l1 c1 b2 A2 l2 c2) 239)) bx w1.heap.size q K:=by
 have h1:Blk ((w.alloc (.cells bx 117)).alloc (.cells (zD false none 0 0 false none 0 0) 239)) (w.heap.size+1) 239 (zD false none 0 0 false none 0 0):=by
  have:=Blk.new (w.alloc (.cells bx 117)) 239 (zD false none 0 0 false none 0 0);simpa using this
 have h2:=(Blk.new w 117 bx).alloc (.cells (zD false none 0 0 false none 0 0) 239);have h3:Below w.heap.size w ((w.alloc (.cells bx 117)).alloc (.cells (zD false none 0 0 false none 0 0) 239)):=((yB _ _).alloc (yA _) _).alloc (by simp) _;have h4:Below w.heap.size w w1:=h3.trans (hb.mono (by omega));have fO:w.heap.size+2≤w1.heap.size:=by have:=hb.size;simpa using this
 exact⟨(h2.below hb (by omega)).alloc _,(h1.below hb (by omega)).alloc _,EqBox.new hE,h4.alloc h4.size _,by omega⟩
theorem xF {x y:Int} (h1:x.natAbs≤1152921504606846976) (h2:y.natAbs≤1152921504606846976):∀z∈[x,y],z.natAbs≤1152921504606846976:=fun z hz=>by
 simp at hz;rcases hz with rfl|rfl
 ·exact h1
 exact h2
theorem EY (v:Value) (b:BeamT) (a:Int) (w:World) (hv:BeamAt w w.heap.size v b) (hb:BeamOk b) (Hj:0≤a) (UV:a≤b.len):Calls Tryz.prog 248 #[v,.int .i64 a] w (eZ w (dC b a) 1270):=by
 obtain⟨As,cs,Al,cl,rfl,hS,hL⟩:=hv;obtain⟨_,_,e,_,dR,nQ⟩:=hL.open_;injection e with e1 _ e2;subst e1 e2;have h2:=hb.loads1;have h3:=hb.even;have h5:=hb.len;unfold maxLen at dR;have uw:=zh nQ;have Hb:=zh hb;obtain⟨TD,h32⟩:=h3;obtain⟨XH,Vb⟩:=h5;clear nQ hb hS hL;go_enter Tryz.func248,Tryz.ntmps248;go_wp2_with fail;have hI:=im ((w.alloc (.cells (zC b As cs Al cl) 117)).alloc (.cells (zD false none 0 0 false none 0 0) 239)) 3 [b.even,a,a] (yU rfl)
 have fO:((w.alloc (.cells (zC b As cs Al cl) 117)).alloc (.cells (zD false none 0 0 false none 0 0) 239)).heap.size=w.heap.size+1+1:=by simp
 rw[fO] at hI;refine (fF 2000 _ [b.even,a,a] _ hI (yU rfl) (fun x hx=>?_) (by decide) (by decide)).mono ?_
 ·simp at hx;omega
 rintro e w1 ⟨v1,rfl,lE,kh⟩;obtain⟨m1,B1,k1,d1,m2,B2,k2,d2,_,_,rfl,-⟩:=cf kh;have qV:=((yB _ ((w.alloc (.cells (zC b As cs Al cl) 117)).alloc (.cells (zD false none 0 0 false none 0 0) 239))).alloc (yA _) (.cells #[.int .i64 b.even,.int .i64 a,.int .i64 a] 3)).trans (lE.mono (by simp));rw[fO] at qV;have aW:=zh (SumQ.start qV kh);have HH:Y0 (jr b a 0=Zu 2000 [b.even,a,a]):=rfl;clear hI fO lE kh qV;go_wp2_with fail
 generalize w1.heap.size=Ds at*;rw[←HH.o] at aW;clear HH;go_loopw [6] (fun ix wr=>∃k:Nat,k≤b.loads.length∧ix=.int .i64 k∧Y0 (SumQ w wr (zC b As cs Al cl) Ds (jr b a k) (30+31*k))) (fun ix _=>b.loads.length-(intOf ix).toNat)
 case atStart=>exact⟨0,yI _,rfl,aW⟩
 clear aW;obtain⟨k,hk,rfl,aW⟩:=hrel;have k0:(0:Int)≤(k:Int):=yE _;have c3:=aW.o.bm.cell 3;obtain⟨li,lk,kY,lg,lh,lj,kX,lf,hB,hE⟩:=aW.o.sum;have y0:=hB.cell 0;have y1:=hB.cell 1;have y2:=hB.cell 2;have y3:=hB.cell 3;simp only[aB,aD,aA] at y0 y1 y2 y3 c3;have HE:=zh hE;clear hB hE;by_cases aK:k<b.loads.length
 ·have k1:(k:Int)<(b.loads.length:Int):=by omega
  obtain⟨b2,o2,rfl,aI,dR⟩:=uw.o k aK;obtain⟨cG,dc⟩:=dR k aK;have cG:=(aW.o.bel.cell (p:=⟨b2,o2+k*2,none⟩) aI).trans cG;have dc:=(aW.o.bel.cell (p:=⟨b2,o2+k*2+1,none⟩) aI).trans dc;obtain⟨p1,p2,p3,p4⟩:=Hb.o.loads _ (yV aK);have gZ:=zh (Zl (b:=b) (f:=qW a) (s:=Zu 2000 [b.even,a,a]) aK);clear dR;generalize b.loads[k]=x at*;obtain⟨pos,wt⟩:=x;simp only at cG dc p1 p2 p3 p4;by_cases pY:pos<a
  ·have hd:decide (pos<a)=true:=yD pY;have HT:Y0 (jr b a (k+1)=jr b a k+Zu 1 [wt,a-pos]):=by
    unfold Y0 jr;rw[gZ.o];unfold qW;simp only[if_pos pY]
   have mz:(a-pos).natAbs≤1152921504606846976:=by omega
   have lQ:wt.natAbs≤1152921504606846976:=by omega
   have v1:IntKind.i64.wrap (a-pos)=a-pos:=yF _ (by omega);clear gZ;go_upto_region 6 with fail;have u0:=YL y0;have u1:=YL y1;have u2:=YL y2;have u3:=YL y3;have u4:=YL cG;have u5:=YL dc;have u6:=YL c3;clear y0 y1 y2 y3 cG dc c3;refine af 18 (fun i=>if i=15 then some (gI [wt,a-pos]) else if i=16 then some (jw (Zu 1 [wt,a-pos]) 30) else if i=17 then some (jw (jr b a k+Zu 1 [wt,a-pos]) (30+31*(k+1))) else none) (by kernel_rfl) (by kernel_rfl) ?_
   simp only[aO,aR,aP,aQ];refine zw 15 ?_;simp only[aO,aR,aP,aQ]
   repeat (go_big_quiet_step (fail))
   refine YE ?_;refine aX rfl rfl (fun w1 ak _=>fm (T:=3) (l:=[wt,a-pos]) (yU rfl) (by go_simp)) ?_;rintro _ ⟨g35,rfl⟩;simp only[Act.put,aw,av,au];refine ae rfl rfl ?_ ?_
   ·intro w1 ak hk;have h35:ct w1 w1.heap.size (.slice (some ⟨g35,0,none⟩) 2 2) [wt,a-pos]:=hk 43 (by decide);have hC:=Zg (fF 1 _ [wt,a-pos] w1 h35 (yU rfl) (xF lQ mz) (by decide) (by decide));exact zc hC
   rintro _ ⟨vh,vj,vd,vf,vg,vi,uZ,ve,rfl⟩;simp only[Act.put,aw,av,au];refine ae rfl rfl ?_ ?_
   ·intro w1 ak hk;have h36:ExqAt w1 w1.heap.size (.agg (zD vh vj vd vf vg vi uZ ve)) (Zu 1 [wt,a-pos]) 30:=hk 44 (by decide);have hC:=Zg (ig _ _ _ _ (30+31*k) 30 w1 (HE.o.grow ak) h36 (by omega));exact zc hC
   rintro _ ⟨uV,uY,uQ,uT,uU,uX,uP,uR,rfl⟩;simp only[Act.put,aw,av,au];refine Zc ?_;intro w8 aT hF;have R9:ExqAt w8 w8.heap.size (.agg (zD uV uY uQ uT uU uX uP uR)) (jr b a k+Zu 1 [wt,a-pos]) (30+31*(k+1)):=hF 45;have HL:=zh R9;have dv:=zh (aW.o.grow aT);obtain⟨_,_,_,_,_,_,_,_,h1,-⟩:=dv.o.sum;have q0:=h1.cell 0;have q1:=h1.cell 1;have q2:=h1.cell 2;have q3:=h1.cell 3;have f0:=h1.frozen 0;have f1:=h1.frozen 1
   have f2:=h1.frozen 2;have f3:=h1.frozen 3;simp only[aB,aD,aA] at q0 q1 q2 q3;rw[←HT.o] at HL;clear hF u0 u1 u2 u3 u4 u5 u6 aT R9 h1 HE aW;go_wp2_with fail;have mQ:=zh (dv.o.put HL.o);clear q0 q1 q2 q3 f0 f1 f2 f3 HL dv;go_roundw
   case rel=>exact⟨k+1,by omega,by go_num,mQ⟩
   simp[intOf];omega
  have hd:decide (pos<a)=false:=yC pY;have HT:Y0 (jr b a (k+1)=jr b a k):=by
   unfold Y0 jr;rw[gZ.o];unfold qW;simp only[if_neg pY]
  have ey:Y0 (SumQ w wr (zC b As cs (some ⟨b2,o2,none⟩) cl) Ds (jr b a (k+1)) (30+31*(k+1))):=by
   rw[HT.o];exact aW.o.more (by omega)
  clear gZ aW;go_wp2_with fail;go_roundw
  case rel=>exact⟨k+1,by omega,by go_num,ey⟩
  simp[intOf];omega
 obtain rfl:k=b.loads.length:=by omega
 have r0:=aW.o.res.cell 0;have r1:=aW.o.res.cell 1;have r2:=aW.o.res.cell 2;have r3:=aW.o.res.cell 3;have f0:=aW.o.res.frozen 0;have f1:=aW.o.res.frozen 1;have f2:=aW.o.res.frozen 2;have f3:=aW.o.res.frozen 3;simp only[aB,aD,aA] at r0 r1 r2 r3;have dT:=zh (jd (w:=w) (YH _) aW.o.bel aW.o.res (HE.o.more (K':=1270) (by omega)));clear aW;go_wp2_with fail;refine YF (v:=.agg (zD li lk kY lg lh lj kX lf)) (by simp[results,Tryz.results248,go_sem,r0,r1,r2,r3]) rfl ?_
 exact⟨_,rfl,dT.o.1,dT.o.2⟩
