/- Lemmas. -/
import Derived.Test.YtknkhnahflmjiaaGreatDoorR4
namespace Go.Proofs.YtknkhnahflmjiaaGreatDoor
set_option maxRecDepth 100000
set_option maxHeartbeats 40000000
open Go.RowKit Go.Shelf
theorem s6 (b:BeamT):bG b=((0:Int):Rat)-dC b (ai b 0):=rfl
theorem xJ (v:Value) (b:BeamT) (a:Int) (w:World) (hv:BeamAt w w.heap.size v b) (hb:BeamOk b) (Hj:0≤a) (UV:a≤b.len) (hT:∀(u:Value) (w1:World),BeamAt w1 w1.heap.size u b→Calls Tryz.prog 274 #[u] w1 (TurnedPost b w1)) :
  Calls Tryz.prog 249 #[v,.int .i64 a] w (eZ w (dC (ao b) (b.len-a)) 1270):=by
 have zj:=hv;obtain⟨As,cs,Al,cl,rfl,-⟩:=hv;have h5:=hb.len;have HbT:=zh (kW hb);have HT:=zh hT;have HA:Y0 (0≤b.len-a∧b.len-a≤b.len):=by unfold Y0;omega
 have v0:IntKind.i64.wrap (b.len-a)=b.len-a:=yF _ (by omega);have hbW:Below w.heap.size w ((w.alloc (.cells (zC b As cs Al cl) 117)).alloc (.cells (zD false none 0 0 false none 0 0) 239)):=((yB _ w).alloc (yA _) _).alloc (by simp) _;have B1:=(Blk.new w 117 (zC b As cs Al cl)).alloc (.cells (zD false none 0 0 false none 0 0) 239);have B3:=Blk.new (w.alloc (.cells (zC b As cs Al cl) 117)) 239 (zD false none 0 0 false none 0 0)
 rw[yZ] at B3;have HV:=zh (zj.grow hbW);have bE:=zh hbW;clear hbW zj hT hb;go_enter Tryz.func249,Tryz.ntmps249;go_upto_region 1 with fail;generalize (w.alloc (.cells (zC b As cs Al cl) 117)).alloc (.cells (zD false none 0 0 false none 0 0) 239)=W2 at*;obtain⟨y0,y1,y2,y3,y4⟩:=B1.c5;have u0:=YL y0;have u1:=YL y1;have u2:=YL y2;have u3:=YL y3;have u4:=YL y4;have B3:=zh B3;clear y0 y1 y2 y3 y4 B1;refine af 7 (fun i=>if i=1 then some (gB (ao b)) else if i=6 then some (jw (dC (ao b) (b.len-a)) 1270) else none) (by kernel_rfl) (by kernel_rfl) ?_
 simp only[aO,aR,aP,aQ];refine zw 1 ?_;simp only[aO,aR,aP,aQ]
 repeat (go_big_quiet_step (fail))
 refine YE ?_;refine ae rfl rfl ?_ ?_
 ·intro w1 ak hk;exact zc (TurnedPost.g (HT.o _ w1 (HV.o.grow ak)))
 rintro _ ⟨tAs,tcs,tAl,tcl,rfl⟩;simp only[Act.put,aw,av,au];refine zw 4 ?_;simp only[aO,aR,aP,aQ]
 repeat (go_big_quiet_step (fail))
 refine YE ?_;refine ae rfl rfl ?_ ?_
 ·intro w1 ak hk;have h6:BeamAt w1 w1.heap.size (.agg (zC (ao b) tAs tcs tAl tcl)) (ao b):=hk 6 (by decide);exact zc (Zg (EY _ (ao b) (b.len-a) w1 h6 HbT.o HA.o.1 HA.o.2))
 rintro _ ⟨r1,R1,l1,c1,r2,R2,l2,c2,rfl⟩;simp only[Act.put,aw,av,au];refine Zc ?_;intro w8 aT hF;have HL:Y0 (ExqAt w8 w8.heap.size (.agg (zD r1 R1 l1 c1 r2 R2 l2 c2)) (dC (ao b) (b.len-a)) 1270):=hF 11;have bp:=zh (B3.o.below aT B3.o.lt);have eG:=zh (bE.o.trans (aT.mono bE.o.size));have dT:=zh (jd (w:=w) (YH _) eG.o bp.o HL.o);have q0:=bp.o.cell 0;have q1:=bp.o.cell 1;have q2:=bp.o.cell 2;have q3:=bp.o.cell 3
 have f0:=bp.o.frozen 0;have f1:=bp.o.frozen 1;have f2:=bp.o.frozen 2;have f3:=bp.o.frozen 3;simp only[aB,aD,aA] at q0 q1 q2 q3;clear hF aT u0 u1 u2 u3 u4;go_wp2_with fail;refine YF (v:=.agg (zD r1 R1 l1 c1 r2 R2 l2 c2)) (by simp[results,Tryz.results249,go_sem,q0,q1,q2,q3]) rfl ?_;exact⟨_,rfl,dT.o.1,dT.o.2⟩
theorem Wm {x y z:Int} (h1:x.natAbs≤1152921504606846976) (h2:y.natAbs≤1152921504606846976) (h3:z.natAbs≤1152921504606846976):∀u∈[x,y,z],u.natAbs≤1152921504606846976:=fun u hu=>by
 simp at hu;rcases hu with rfl|rfl|rfl
 ·exact h1
 ·exact h2
 exact h3
theorem YM (v:Value) (b:BeamT) (lo hi:Int) (w:World) (hv:BeamAt w w.heap.size v b) (hb:BeamOk b) (Hj:0≤lo) (UV:lo<hi) (ha2:hi≤b.len):Calls Tryz.prog 252 #[v,.int .i64 hi,.int .i64 lo] w (eZ w (cZ b lo hi true) 1270):=by
 obtain⟨As,cs,Al,cl,rfl,hS,hL⟩:=hv;obtain⟨_,_,e,_,dR,nQ⟩:=hL.open_;injection e with e1 _ e2;subst e1 e2;have h2:=hb.loads1;have h3:=hb.even;have h5:=hb.len;unfold maxLen at dR;have uw:=zh nQ;have Hb:=zh hb;obtain⟨TD,h32⟩:=h3;obtain⟨XH,Vb⟩:=h5;obtain⟨s,hs⟩:∃s,s=hi-lo:=⟨_,rfl⟩;have Hs:=zh hs;have s1:1≤s:=by omega
 have s2:s≤1048576:=by omega
 have v0:IntKind.i64.wrap (hi-lo)=s:=(yF _ (by omega)).trans hs.symm;have d0:decide (s<0)=false:=yC (by omega);have d1:decide (hi<lo)=false:=yC (by omega);clear nQ hb hS hL hs;go_enter Tryz.func252,Tryz.ntmps252;go_wp2_with fail;have hI:=im ((w.alloc (.cells (zC b As cs Al cl) 117)).alloc (.cells (zD false none 0 0 false none 0 0) 239)) 3 [b.even,s,s,s] (yU rfl);have fO:((w.alloc (.cells (zC b As cs Al cl) 117)).alloc (.cells (zD false none 0 0 false none 0 0) 239)).heap.size=w.heap.size+1+1:=by simp
 rw[fO] at hI;refine (fF 4000 _ [b.even,s,s,s] _ hI (yU rfl) (fun x hx=>?_) (by decide) (by decide)).mono ?_
 ·simp at hx;omega
 rintro e w1 ⟨v1,rfl,lE,kh⟩;obtain⟨m1,B1,k1,d1,m2,B2,k2,d2,_,_,rfl,-⟩:=cf kh;have qV:=((yB _ ((w.alloc (.cells (zC b As cs Al cl) 117)).alloc (.cells (zD false none 0 0 false none 0 0) 239))).alloc (yA _) (.cells #[.int .i64 b.even,.int .i64 s,.int .i64 s,.int .i64 s] 3)).trans (lE.mono (by simp));rw[fO] at qV;have aW:=zh (SumQ.start qV kh);have HH:Y0 (bH b lo hi true 0=Zu 4000 [b.even,s,s,s]):=by unfold Y0;rw[Hs.o];rfl
 clear hI fO lE kh qV;go_wp2_with fail;generalize w1.heap.size=Ds at*;rw[←HH.o] at aW;clear HH;go_loopw [9] (fun ix wr=>∃k:Nat,k≤b.loads.length∧ix=.int .i64 k∧Y0 (SumQ w wr (zC b As cs Al cl) Ds (bH b lo hi true k) (30+31*k))) (fun ix _=>b.loads.length-(intOf ix).toNat)
 case atStart=>exact⟨0,yI _,rfl,aW⟩
 clear aW;obtain⟨k,hk,rfl,aW⟩:=hrel;have k0:(0:Int)≤(k:Int):=yE _;have c3:=aW.o.bm.cell 3;obtain⟨li,lk,kY,lg,lh,lj,kX,lf,hB,hE⟩:=aW.o.sum;have y0:=hB.cell 0;have y1:=hB.cell 1;have y2:=hB.cell 2;have y3:=hB.cell 3;simp only[aB,aD,aA] at y0 y1 y2 y3 c3;have HE:=zh hE;clear hB hE;by_cases aK:k<b.loads.length
 ·have k1:(k:Int)<(b.loads.length:Int):=by omega
  obtain⟨b2,o2,rfl,aI,dR⟩:=uw.o k aK;obtain⟨cG,dc⟩:=dR k aK;have cG:=(aW.o.bel.cell (p:=⟨b2,o2+k*2,none⟩) aI).trans cG;have dc:=(aW.o.bel.cell (p:=⟨b2,o2+k*2+1,none⟩) aI).trans dc;obtain⟨p1,p2,p3,p4⟩:=Hb.o.loads _ (yV aK);have gZ:=zh (Zl (b:=b) (f:=kZ lo hi true) (s:=Zu 4000 [b.even,hi-lo,hi-lo,hi-lo]) aK);clear dR;generalize b.loads[k]=x at*;obtain⟨pos,wt⟩:=x;simp only at cG dc p1 p2 p3 p4;obtain⟨o,ho⟩:∃o,o=pos-lo:=⟨_,rfl⟩
  have Ho:=zh ho;have v2:IntKind.i64.wrap (pos-lo)=o:=(yF _ (by omega)).trans (by omega);by_cases pY:0<o∧o<s
  ·have e1:decide (0<o)=true:=yD pY.1;have e2:decide (o<s)=true:=yD pY.2;have HT:Y0 (bH b lo hi true (k+1)=bH b lo hi true k+Zu s [wt,o,s*s-o*o]):=by
    have:=Hs.o;unfold Y0 bH;rw[gZ.o];unfold kZ;rw[if_neg (show ¬(pos≤lo∨hi≤pos) by omega)];simp only[if_true];rw[←Ho.o,←Hs.o]
   have hss:0≤s*s∧s*s≤1099511627776:=⟨Int.mul_nonneg (by omega) (by omega),Int.mul_le_mul s2 s2 (by omega) (by decide)⟩;have UA:0≤o*o∧o*o≤1099511627776:=⟨Int.mul_nonneg (by omega) (by omega),Int.mul_le_mul (show o≤1048576 by omega) (show o≤1048576 by omega) (by omega) (by decide)⟩;have w1:IntKind.i64.wrap (s*s)=s*s:=yF _ (by omega);have w2:IntKind.i64.wrap (o*o)=o*o:=yF _ (by omega);have w3:IntKind.i64.wrap (s*s-o*o)=s*s-o*o:=yF _ (by omega)
   have mz:o.natAbs≤1152921504606846976:=by omega
   have lQ:wt.natAbs≤1152921504606846976:=by omega
   have xi:(s*s-o*o).natAbs≤1152921504606846976:=by omega
   clear gZ hss UA pY ho;go_upto_region 12 with fail;have u0:=YL y0;have u1:=YL y1;have u2:=YL y2;have u3:=YL y3;have u4:=YL cG;have u5:=YL dc;have u6:=YL c3;clear y0 y1 y2 y3 cG dc c3;refine af 19 (fun i=>if i=15 then some (gI [wt,o,s*s-o*o]) else if i=17 then some (jw (Zu s [wt,o,s*s-o*o]) 30) else if i=18 then some (jw (bH b lo hi true k+Zu s [wt,o,s*s-o*o]) (30+31*(k+1))) else none) (by kernel_rfl) (by kernel_rfl) ?_
   simp only[aO,aR,aP,aQ];refine zw 15 ?_;simp only[aO,aR,aP,aQ]
   repeat (go_big_quiet_step (fail))
   refine YE ?_;refine aX rfl rfl (fun w1 ak _=>fm (T:=3) (l:=[wt,o,s*s-o*o]) (yU rfl) (by go_simp)) ?_;rintro _ ⟨g35,rfl⟩;simp only[Act.put,aw,av,au];refine zw 1 ?_;simp only[aO,aR,aP,aQ]
   repeat (go_big_quiet_step (fail))
   refine YE ?_;refine ae rfl rfl ?_ ?_
   ·intro w1 ak hk;have h35:ct w1 w1.heap.size (.slice (some ⟨g35,0,none⟩) 3 3) [wt,o,s*s-o*o]:=hk 74 (by decide);have hC:=Zg (fF s _ [wt,o,s*s-o*o] w1 h35 (yU rfl) (Wm lQ mz xi) (by omega) (by omega));exact zc hC
   rintro _ ⟨vh,vj,vd,vf,vg,vi,uZ,ve,rfl⟩;simp only[Act.put,aw,av,au];refine ae rfl rfl ?_ ?_
   ·intro w1 ak hk;have h36:ExqAt w1 w1.heap.size (.agg (zD vh vj vd vf vg vi uZ ve)) (Zu s [wt,o,s*s-o*o]) 30:=hk 76 (by decide);have hC:=Zg (ig _ _ _ _ (30+31*k) 30 w1 (HE.o.grow ak) h36 (by omega));exact zc hC
   rintro _ ⟨uV,uY,uQ,uT,uU,uX,uP,uR,rfl⟩;simp only[Act.put,aw,av,au];refine Zc ?_;intro w8 aT hF;have R9:ExqAt w8 w8.heap.size (.agg (zD uV uY uQ uT uU uX uP uR)) (bH b lo hi true k+Zu s [wt,o,s*s-o*o]) (30+31*(k+1)):=hF 77;have HL:=zh R9;have dv:=zh (aW.o.grow aT);obtain⟨_,_,_,_,_,_,_,_,h1,-⟩:=dv.o.sum;have q0:=h1.cell 0;have q1:=h1.cell 1;have q2:=h1.cell 2;have q3:=h1.cell 3;have f0:=h1.frozen 0
   have f1:=h1.frozen 1;have f2:=h1.frozen 2;have f3:=h1.frozen 3;simp only[aB,aD,aA] at q0 q1 q2 q3;rw[←HT.o] at HL;clear hF u0 u1 u2 u3 u4 u5 u6 aT R9 h1 HE aW;go_wp2_with fail;have mQ:=zh (dv.o.put HL.o);clear q0 q1 q2 q3 f0 f1 f2 f3 HL dv;go_roundw
   case rel=>exact⟨k+1,by omega,by go_num,mQ⟩
   simp[intOf];omega
  have HT:Y0 (bH b lo hi true (k+1)=bH b lo hi true k):=by
   have:=Hs.o;unfold Y0 bH;rw[gZ.o];unfold kZ;rw[if_pos (show pos≤lo∨hi≤pos by omega)]
  have ey:Y0 (SumQ w wr (zC b As cs (some ⟨b2,o2,none⟩) cl) Ds (bH b lo hi true (k+1)) (30+31*(k+1))):=by
   rw[HT.o];exact aW.o.more (by omega)
  have hc:decide (0<o)=false∨decide (0<o)=true∧decide (o<s)=false:=by
   by_cases h:0<o
   ·exact .inr ⟨yD h,yC (by omega)⟩
   exact .inl (yC h)
  clear gZ aW HT pY ho;rcases hc with e1|⟨e1,e2⟩
  all_goals
   go_wp2_with fail;go_roundw
   case rel=>exact⟨k+1,by omega,by go_num,ey⟩
   simp[intOf];omega
 obtain rfl:k=b.loads.length:=by omega
 have r0:=aW.o.res.cell 0;have r1:=aW.o.res.cell 1;have r2:=aW.o.res.cell 2;have r3:=aW.o.res.cell 3;have f0:=aW.o.res.frozen 0;have f1:=aW.o.res.frozen 1;have f2:=aW.o.res.frozen 2;have f3:=aW.o.res.frozen 3;simp only[aB,aD,aA] at r0 r1 r2 r3;have dT:=zh (jd (w:=w) (YH _) aW.o.bel aW.o.res (HE.o.more (K':=1270) (by omega)));clear aW;go_wp2_with fail;refine YF (v:=.agg (zD li lk kY lg lh lj kX lf)) (by simp[results,Tryz.results252,go_sem,r0,r1,r2,r3]) rfl ?_
 exact⟨_,rfl,dT.o.1,dT.o.2⟩
theorem YN (v:Value) (b:BeamT) (lo hi:Int) (w:World) (hv:BeamAt w w.heap.size v b) (hb:BeamOk b) (Hj:0≤lo) (UV:lo<hi) (ha2:hi≤b.len):Calls Tryz.prog 252 #[v,.int .i64 lo,.int .i64 hi] w (eZ w (cZ b lo hi false) 1270):=by
 obtain⟨As,cs,Al,cl,rfl,hS,hL⟩:=hv;obtain⟨_,_,e,_,dR,nQ⟩:=hL.open_;injection e with e1 _ e2;subst e1 e2;have h2:=hb.loads1;have h3:=hb.even;have h5:=hb.len;unfold maxLen at dR;have uw:=zh nQ;have Hb:=zh hb;obtain⟨TD,h32⟩:=h3;obtain⟨XH,Vb⟩:=h5;obtain⟨s,hs⟩:∃s,s=hi-lo:=⟨_,rfl⟩;have Hs:=zh hs;have s1:1≤s:=by omega
 have s2:s≤1048576:=by omega
 have v0:IntKind.i64.wrap (lo-hi)=-s:=(yF _ (by omega)).trans (by omega);have v1:IntKind.i64.wrap (hi-lo)=s:=(yF _ (by omega)).trans hs.symm;have d0:decide (-s<0)=true:=yD (by omega);have d1:decide (lo<hi)=true:=yD (by omega);clear nQ hb hS hL hs;go_enter Tryz.func252,Tryz.ntmps252;go_wp2_with fail;have hI:=im ((w.alloc (.cells (zC b As cs Al cl) 117)).alloc (.cells (zD false none 0 0 false none 0 0) 239)) 3 [b.even,s,s,s] (yU rfl)
 have fO:((w.alloc (.cells (zC b As cs Al cl) 117)).alloc (.cells (zD false none 0 0 false none 0 0) 239)).heap.size=w.heap.size+1+1:=by simp
 rw[fO] at hI;refine (fF 4000 _ [b.even,s,s,s] _ hI (yU rfl) (fun x hx=>?_) (by decide) (by decide)).mono ?_
 ·simp at hx;omega
 rintro e w1 ⟨v1,rfl,lE,kh⟩;obtain⟨m1,B1,k1,d1,m2,B2,k2,d2,_,_,rfl,-⟩:=cf kh;have qV:=((yB _ ((w.alloc (.cells (zC b As cs Al cl) 117)).alloc (.cells (zD false none 0 0 false none 0 0) 239))).alloc (yA _) (.cells #[.int .i64 b.even,.int .i64 s,.int .i64 s,.int .i64 s] 3)).trans (lE.mono (by simp));rw[fO] at qV;have aW:=zh (SumQ.start qV kh);have HH:Y0 (bH b lo hi false 0=Zu 4000 [b.even,s,s,s]):=by unfold Y0;rw[Hs.o];rfl
 clear hI fO lE kh qV;go_wp2_with fail;generalize w1.heap.size=Ds at*;rw[←HH.o] at aW;clear HH;go_loopw [9] (fun ix wr=>∃k:Nat,k≤b.loads.length∧ix=.int .i64 k∧Y0 (SumQ w wr (zC b As cs Al cl) Ds (bH b lo hi false k) (30+31*k))) (fun ix _=>b.loads.length-(intOf ix).toNat)
 case atStart=>exact⟨0,yI _,rfl,aW⟩
 clear aW;obtain⟨k,hk,rfl,aW⟩:=hrel;have k0:(0:Int)≤(k:Int):=yE _;have c3:=aW.o.bm.cell 3;obtain⟨li,lk,kY,lg,lh,lj,kX,lf,hB,hE⟩:=aW.o.sum;have y0:=hB.cell 0;have y1:=hB.cell 1;have y2:=hB.cell 2;have y3:=hB.cell 3;simp only[aB,aD,aA] at y0 y1 y2 y3 c3;have HE:=zh hE;clear hB hE;by_cases aK:k<b.loads.length
 ·have k1:(k:Int)<(b.loads.length:Int):=by omega
  obtain⟨b2,o2,rfl,aI,dR⟩:=uw.o k aK;obtain⟨cG,dc⟩:=dR k aK;have cG:=(aW.o.bel.cell (p:=⟨b2,o2+k*2,none⟩) aI).trans cG;have dc:=(aW.o.bel.cell (p:=⟨b2,o2+k*2+1,none⟩) aI).trans dc;obtain⟨p1,p2,p3,p4⟩:=Hb.o.loads _ (yV aK);have gZ:=zh (Zl (b:=b) (f:=kZ lo hi false) (s:=Zu 4000 [b.even,hi-lo,hi-lo,hi-lo]) aK);clear dR;generalize b.loads[k]=x at*;obtain⟨pos,wt⟩:=x;simp only at cG dc p1 p2 p3 p4;obtain⟨o,ho⟩:∃o,o=hi-pos:=⟨_,rfl⟩
  have Ho:=zh ho;have v2:IntKind.i64.wrap (pos-hi)=-o:=(yF _ (by omega)).trans (by omega);have v3:IntKind.i64.wrap (hi-pos)=o:=(yF _ (by omega)).trans ho.symm;by_cases pY:0<o∧o<s
  ·have e1:decide (0<o)=true:=yD pY.1;have e2:decide (o<s)=true:=yD pY.2;have HT:Y0 (bH b lo hi false (k+1)=bH b lo hi false k+Zu s [wt,o,s*s-o*o]):=by
    have:=Hs.o;unfold Y0 bH;rw[gZ.o];unfold kZ;rw[if_neg (show ¬(pos≤lo∨hi≤pos) by omega)];simp only[Bool.false_eq_true,if_false];rw[←Ho.o,←Hs.o]
   have hss:0≤s*s∧s*s≤1099511627776:=⟨Int.mul_nonneg (by omega) (by omega),Int.mul_le_mul s2 s2 (by omega) (by decide)⟩;have UA:0≤o*o∧o*o≤1099511627776:=⟨Int.mul_nonneg (by omega) (by omega),Int.mul_le_mul (show o≤1048576 by omega) (show o≤1048576 by omega) (by omega) (by decide)⟩;have w1:IntKind.i64.wrap (s*s)=s*s:=yF _ (by omega);have w2:IntKind.i64.wrap (o*o)=o*o:=yF _ (by omega);have w3:IntKind.i64.wrap (s*s-o*o)=s*s-o*o:=yF _ (by omega)
   have mz:o.natAbs≤1152921504606846976:=by omega
   have lQ:wt.natAbs≤1152921504606846976:=by omega
   have xi:(s*s-o*o).natAbs≤1152921504606846976:=by omega
   clear gZ hss UA pY ho;go_upto_region 12 with fail;have u0:=YL y0;have u1:=YL y1;have u2:=YL y2;have u3:=YL y3;have u4:=YL cG;have u5:=YL dc;have u6:=YL c3;clear y0 y1 y2 y3 cG dc c3;refine af 19 (fun i=>if i=15 then some (gI [wt,o,s*s-o*o]) else if i=17 then some (jw (Zu s [wt,o,s*s-o*o]) 30) else if i=18 then some (jw (bH b lo hi false k+Zu s [wt,o,s*s-o*o]) (30+31*(k+1))) else none) (by kernel_rfl) (by kernel_rfl) ?_
   simp only[aO,aR,aP,aQ];refine zw 15 ?_;simp only[aO,aR,aP,aQ]
   repeat (go_big_quiet_step (fail))
   refine YE ?_;refine aX rfl rfl (fun w1 ak _=>fm (T:=3) (l:=[wt,o,s*s-o*o]) (yU rfl) (by go_simp)) ?_;rintro _ ⟨g35,rfl⟩;simp only[Act.put,aw,av,au];refine zw 1 ?_;simp only[aO,aR,aP,aQ]
   repeat (go_big_quiet_step (fail))
   refine YE ?_;refine ae rfl rfl ?_ ?_
   ·intro w1 ak hk;have h35:ct w1 w1.heap.size (.slice (some ⟨g35,0,none⟩) 3 3) [wt,o,s*s-o*o]:=hk 74 (by decide);have hC:=Zg (fF s _ [wt,o,s*s-o*o] w1 h35 (yU rfl) (Wm lQ mz xi) (by omega) (by omega));exact zc hC
   rintro _ ⟨vh,vj,vd,vf,vg,vi,uZ,ve,rfl⟩;simp only[Act.put,aw,av,au];refine ae rfl rfl ?_ ?_
   ·intro w1 ak hk;have h36:ExqAt w1 w1.heap.size (.agg (zD vh vj vd vf vg vi uZ ve)) (Zu s [wt,o,s*s-o*o]) 30:=hk 76 (by decide);have hC:=Zg (ig _ _ _ _ (30+31*k) 30 w1 (HE.o.grow ak) h36 (by omega));exact zc hC
   rintro _ ⟨uV,uY,uQ,uT,uU,uX,uP,uR,rfl⟩;simp only[Act.put,aw,av,au];refine Zc ?_;intro w8 aT hF;have R9:ExqAt w8 w8.heap.size (.agg (zD uV uY uQ uT uU uX uP uR)) (bH b lo hi false k+Zu s [wt,o,s*s-o*o]) (30+31*(k+1)):=hF 77;have HL:=zh R9;have dv:=zh (aW.o.grow aT);obtain⟨_,_,_,_,_,_,_,_,h1,-⟩:=dv.o.sum;have q0:=h1.cell 0;have q1:=h1.cell 1;have q2:=h1.cell 2;have q3:=h1.cell 3;have f0:=h1.frozen 0
   have f1:=h1.frozen 1;have f2:=h1.frozen 2;have f3:=h1.frozen 3;simp only[aB,aD,aA] at q0 q1 q2 q3;rw[←HT.o] at HL;clear hF u0 u1 u2 u3 u4 u5 u6 aT R9 h1 HE aW;go_wp2_with fail;have mQ:=zh (dv.o.put HL.o);clear q0 q1 q2 q3 f0 f1 f2 f3 HL dv;go_roundw
   case rel=>exact⟨k+1,by omega,by go_num,mQ⟩
   simp[intOf];omega
  have HT:Y0 (bH b lo hi false (k+1)=bH b lo hi false k):=by
   have:=Hs.o;unfold Y0 bH;rw[gZ.o];unfold kZ;rw[if_pos (show pos≤lo∨hi≤pos by omega)]
  have ey:Y0 (SumQ w wr (zC b As cs (some ⟨b2,o2,none⟩) cl) Ds (bH b lo hi false (k+1)) (30+31*(k+1))):=by
   rw[HT.o];exact aW.o.more (by omega)
  have hc:decide (0<o)=false∨decide (0<o)=true∧decide (o<s)=false:=by
   by_cases h:0<o
   ·exact .inr ⟨yD h,yC (by omega)⟩
   exact .inl (yC h)
  clear gZ aW HT pY ho;rcases hc with e1|⟨e1,e2⟩
  all_goals
   go_wp2_with fail;go_roundw
   case rel=>exact⟨k+1,by omega,by go_num,ey⟩
   simp[intOf];omega
 obtain rfl:k=b.loads.length:=by omega
 have r0:=aW.o.res.cell 0;have r1:=aW.o.res.cell 1;have r2:=aW.o.res.cell 2;have r3:=aW.o.res.cell 3;have f0:=aW.o.res.frozen 0;have f1:=aW.o.res.frozen 1;have f2:=aW.o.res.frozen 2;have f3:=aW.o.res.frozen 3;simp only[aB,aD,aA] at r0 r1 r2 r3;have dT:=zh (jd (w:=w) (YH _) aW.o.bel aW.o.res (HE.o.more (K':=1270) (by omega)));clear aW;go_wp2_with fail;refine YF (v:=.agg (zD li lk kY lg lh lj kX lf)) (by simp[results,Tryz.results252,go_sem,r0,r1,r2,r3]) rfl ?_
 exact⟨_,rfl,dT.o.1,dT.o.2⟩
theorem Qo {n K:Nat} (h:n<4294967296^K):ag n≤(4*K+2)/3:=jf (by
 rw[qj];have e:4294967296^K=2^(32*K):=by rw[Nat.pow_mul]
 rw[e] at h;exact yK h (Nat.pow_le_pow_right (by decide) (by omega)))
theorem JB {q:Rat} {K:Nat} (h:cg q K):ag q.num.natAbs≤(4*K+2)/3∧ag q.den≤(4*K+2)/3:=⟨Qo h.1,Qo h.2⟩
theorem nu (v:Value) (x:Rat) (K M:Nat) (w:World) (hv:ExqAt w w.heap.size v x K) (hK:K≤300000) (hx:cg x M):Calls Tryz.prog 213 #[v] w (eZ w x ((4*M+2)/3)) :=
 (zv v x K w hv hK).mono fun _ _ h=>Jk h (JB hx).1 (JB hx).2
theorem KN {b:BeamT} (h:BeamOk b) {i:Nat} (hi:i<b.sup.length):cg (Zx b i) 50647:=by
 have h1:=h.sup1;unfold Zx;split
 ·exact aS (dH h) (by decide)
 exact aS (sL h (b.sup.length-1-i) (by omega)) (by omega)
theorem Jd {b:BeamT} (h:BeamOk b) (hz:∀i,1 ≤ i→i + 1 < b.sup.length→bN b i ≠ 0):∀i,i + 1 < b.sup.length→cg (ju b i).1 5200 ∧ cg (ju b i).2 38
 | 0,_=>⟨aS (dH h) (by decide),aS (K:=1) (bL (n:=0) (by decide) (yA _)) (by decide)⟩
 | i+1,hi=>by
  have h1:=h.sup1;obtain⟨-,h2,h3⟩:=Jc b hz i (by omega);rw[h2,h3];exact⟨aS (fh (mF h (i:=i+1) (by omega) (by omega)) (np h (i+1) (by omega) (by omega)) (iV h (i+1) (by omega) (by omega))) (by omega),aS (fh (mF h (i:=i+1) (by omega) (by omega)) (jI h (i:=i+2) (by omega) (by omega)) (iV h (i+1) (by omega) (by omega))) (by omega)⟩
def EqRow (w:World) (g n:Nat) (f:Nat→Option Rat) (K:Nat):Prop:=∃es:List E4,es.length=n∧Blk w g 239 (es.flatMap E4.cells).toArray∧∀j (hj:j<es.length) q,f j=some q→ExqAt w w.heap.size es[j].val q K
section
variable {w w':World} {g n:Nat} {f:Nat→Option Rat} {K:Nat}
theorem EqRow.blk (h:EqRow w g n f K):∃cs,Blk w g 239 cs:=by
 obtain⟨es,-,h,-⟩:=h;exact⟨_,h⟩
theorem EqRow.lt (h:EqRow w g n f K):g<w.heap.size:=by
 obtain⟨cs,h⟩:=h.blk;exact h.lt
theorem EqRow.frozen (h:EqRow w g n f K) (i:Nat):w.frozen? ⟨g,i,none⟩=false:=by
 obtain⟨cs,h⟩:=h.blk;exact h.frozen i
theorem EqRow.grow (h:EqRow w g n f K) (hb:Below w.heap.size w w'):EqRow w' g n f K:=by
 obtain⟨es,h1,h2,h3⟩:=h;exact⟨es,h1,h2.below hb h2.lt,fun j hj q hq=>(h3 j hj q hq).grow hb⟩
theorem EqRow.read (h:EqRow w g n f K) {i:Nat} (hi:i<n):∃b1 A1 l1 c1 b2 A2 l2 c2,w.cell? ⟨g,i*4,none⟩=some (.bool b1)∧w.cell? ⟨g,i*4+1,none⟩=some (.slice A1 l1 c1)∧w.cell? ⟨g,i*4+2,none⟩=some (.bool b2)∧w.cell? ⟨g,i*4+3,none⟩=some (.slice A2 l2 c2) ∧
  ∀q,f i=some q→ExqAt w w.heap.size (.agg (zD b1 A1 l1 c1 b2 A2 l2 c2)) q K:=by
 obtain⟨es,rfl,h2,h3⟩:=h;have k:=fun (m:Nat) (hm:m<4)=>(h2.cell (i*4+m)).trans ((List.getElem?_toArray ..).trans (wd es i m hi hm));exact⟨_,_,_,_,_,_,_,_,k 0 (by decide),k 1 (by decide),k 2 (by decide),k 3 (by decide),fun q hq=>h3 i hi q hq⟩
theorem DgTo.set4 {B D o:Nat} {v:Value} {x k:Nat} (h:DgTo w B v x k) {u0 u1 u2 u3:Value} (k0:w.cell? ⟨D,o,none⟩=some u0) (k1:w.cell? ⟨D,o+1,none⟩=some u1) (k2:w.cell? ⟨D,o+2,none⟩=some u2) (k3:w.cell? ⟨D,o+3,none⟩=some u3) (n0:∀z,u0 ≠ .int .i64 z) (n1:∀z,u1 ≠ .int .i64 z) (n2:∀z,u2 ≠ .int .i64 z) (n3:∀z,u3 ≠ .int .i64 z) (x0 x1 x2 x3:Value) :
  DgTo ((((w.setCell ⟨D,o,none⟩ x0).setCell ⟨D,o+1,none⟩ x1).setCell ⟨D,o+2,none⟩ x2).setCell ⟨D,o+3,none⟩ x3) B v x k:=by
 have ne:∀ {W:World} {a b:Nat} {y:Value},a≠b→(W.setCell ⟨D,b,none⟩ y).cell? ⟨D,a,none⟩=W.cell? ⟨D,a,none⟩:=fun {W a b y} hab=>by
  rw[World.cell?_setCell_other];intro e;injection e with _ e _;exact hab e.symm
 have g1:=DgTo.set h k0 n0 x0;have g2:=DgTo.set g1 ((ne (by omega)).trans k1) n1 x1;have g3:=DgTo.set g2 ((ne (by omega)).trans ((ne (by omega)).trans k2)) n2 x2;exact DgTo.set g3 ((ne (by omega)).trans ((ne (by omega)).trans ((ne (by omega)).trans k3))) n3 x3
theorem ExqAt.row {v:Value} {q:Rat} {K':Nat} (h:ExqAt w w.heap.size v q K') {es:List E4} (hD:Blk w g 239 (es.flatMap E4.cells).toArray) {i:Nat} (hi:i<es.length) (x0 x1 x2 x3:Value) :
  ExqAt ((((w.setCell ⟨g,i*4,none⟩ x0).setCell ⟨g,i*4+1,none⟩ x1).setCell ⟨g,i*4+2,none⟩ x2).setCell ⟨g,i*4+3,none⟩ x3) ((((w.setCell ⟨g,i*4,none⟩ x0).setCell ⟨g,i*4+1,none⟩ x1).setCell ⟨g,i*4+2,none⟩ x2).setCell ⟨g,i*4+3,none⟩ x3).heap.size v q K':=by
 have k:=fun (m:Nat) (hm:m<4)=>(hD.cell (i*4+m)).trans ((List.getElem?_toArray ..).trans (wd es i m hi hm));obtain⟨_,_,_,_,N,E,e,h4,h5,h6⟩:=h;have fJ:=fun {v:Value} {x m:Nat} (h:DgTo w w.heap.size v x m)=>DgTo.mono (DgTo.set4 h (k 0 (by decide)) (k 1 (by decide)) (k 2 (by decide)) (k 3 (by decide)) (fun z=>by simp) (fun z=>by simp) (fun z=>by simp) (fun z=>by simp) x0 x1 x2 x3) (show w.heap.size≤((((w.setCell ⟨g,i*4,none⟩ x0).setCell ⟨g,i*4+1,none⟩ x1).setCell ⟨g,i*4+2,none⟩ x2).setCell ⟨g,i*4+3,none⟩ x3).heap.size by simp[World.setCell])
 exact⟨_,_,_,_,N,E,e,⟨h4.1,fJ h4.2⟩,⟨h5.1,fJ h5.2⟩,h6⟩
theorem EqRow.write (h:EqRow w g n f K) {i:Nat} (hi:i<n) {b1:Bool} {A1:Option Addr} {l1 c1:Nat} {b2:Bool} {A2:Option Addr} {l2 c2:Nat} {q:Rat} (hE:ExqAt w w.heap.size (.agg (zD b1 A1 l1 c1 b2 A2 l2 c2)) q K) :
  EqRow ((((w.setCell ⟨g,i*4,none⟩ (.bool b1)).setCell ⟨g,i*4+1,none⟩ (.slice A1 l1 c1)).setCell ⟨g,i*4+2,none⟩ (.bool b2)).setCell ⟨g,i*4+3,none⟩ (.slice A2 l2 c2)) g n (eu f i q) K:=by
 obtain⟨es,rfl,h2,h3⟩:=h;refine⟨es.set i ⟨b1,A1,l1,c1,b2,A2,l2,c2⟩,by simp,?_,fun j hj q' hq=>?_⟩
 ·have:=(((h2.set_ (i*4) (.bool b1)).set_ (i*4+1) (.slice A1 l1 c1)).set_ (i*4+2) (.bool b2)).set_ (i*4+3) (.slice A2 l2 c2);rw[Se es i _ hi];simpa using this
 have hj':j<es.length:=by simpa using hj
 unfold eu at hq;by_cases e:j=i
 ·subst e;rw[if_pos rfl] at hq;injection hq with hq;subst hq;simp only[List.getElem_set_self];exact hE.row h2 hi _ _ _ _
 rw[if_neg e] at hq;rw[List.getElem_set_ne (fun e'=>e e'.symm)];exact (h3 j hj' q' hq).row h2 hi _ _ _ _
theorem EqRow.weak (h:EqRow w g n f K) {f':Nat→Option Rat} (hf:∀j q,j<n→f' j=some q→f j=some q):EqRow w g n f' K:=by
 obtain⟨es,h1,h2,h3⟩:=h;exact⟨es,h1,h2,fun j hj q hq=>h3 j hj q (hf j q (by omega) hq)⟩
end
theorem EqRow.made {w:World} {n:Nat} {B g K:Nat} (h:w.ownsRow B 239 4 (.slice (some ⟨g,0,none⟩) n n) n (madeCells (Value.cells (.agg (zD false none 0 0 false none 0 0))) (n*4)).toList):EqRow w g n (fun _=>none) K:=by
 rcases h.2 with⟨h',_⟩|⟨g2,cap,cur,h',_,h3,_,_,hs,ht⟩
 ·cases h'
 injection h' with h4 _ h5;injection h4 with h4;injection h4 with h4 _ _;subst h4 h5;rw[List.take_of_length_le (by rw[Array.length_toList,hs];exact yA _),Ji] at ht;refine⟨List.replicate n ⟨false,none,0,0,false,none,0,0⟩,by simp,?_,fun j hj q hq=>by cases hq⟩;unfold Blk;rw[h3,←ht]
def wN (B:Nat) (v:Value) (w:World):Prop:=∃g,v=.pointer (some ⟨g,0,none⟩)∧B≤g∧Blk w g 239 #[.bool false,.slice none 0 0,.bool false,.slice none 0 0]
def gAq (B:Nat):GPost:=⟨fun v=>∃g,v=.pointer (some ⟨g,0,none⟩),wN B,⟨_,0,rfl⟩,fun _ _ _ hb h=>by
 obtain⟨g,h1,h2,h3⟩:=h;exact⟨g,h1,h2,h3.below hb h3.lt⟩,true⟩
theorem uh {P:Program} {o:Oper} {a:Act} {w:World} {B:Nat} (hB:B≤w.heap.size) (h:(execOp a.eval o).run P w=.ok (.value (.pointer (some ⟨w.heap.size,0,none⟩))) (w.alloc (.cells (zD false none 0 0 false none 0 0) 239))):jv P o a (gAq B) w :=
 ⟨_,_,h,(yB _ _).alloc (yA _) _,⟨_,rfl⟩,⟨_,rfl,hB,Blk.new _ _ _⟩,fun _=>⟨w.heap.size,rfl,yA _,by simp⟩⟩
theorem EqBox.more {w:World} {D:Nat} {q:Rat} {K K':Nat} (h:EqBox w D q K) (hK:K≤K'):EqBox w D q K':=by
 obtain⟨b1,A1,l1,c1,b2,A2,l2,c2,h1,h2⟩:=h;exact⟨b1,A1,l1,c1,b2,A2,l2,c2,h1,h2.more hK⟩
theorem EqBox.first {w:World} {D:Nat} {q:Rat} {K:Nat} (hD:Blk w D 239 (zD false none 0 0 false none 0 0)) {b1:Bool} {A1:Option Addr} {l1 c1:Nat} {b2:Bool} {A2:Option Addr} {l2 c2:Nat} (hE:ExqAt w w.heap.size (.agg (zD b1 A1 l1 c1 b2 A2 l2 c2)) q K) :
  EqBox ((((w.setCell ⟨D,0,none⟩ (.bool b1)).setCell ⟨D,1,none⟩ (.slice A1 l1 c1)).setCell ⟨D,2,none⟩ (.bool b2)).setCell ⟨D,3,none⟩ (.slice A2 l2 c2)) D q K:=by
 obtain⟨_,_,_,_,N,E,e,h4,h5,h6⟩:=hE;cases e;have z0:=hD.cell 0;have z1:=(hD.set_ 0 (.bool b1)).cell 1;have z2:=((hD.set_ 0 (.bool b1)).set_ 1 (.slice A1 l1 c1)).cell 2;have z3:=(((hD.set_ 0 (.bool b1)).set_ 1 (.slice A1 l1 c1)).set_ 2 (.bool b2)).cell 3;simp only[aB,aA] at z0;have fJ:∀ {v:Value} {x k:Nat},DgTo w w.heap.size v x k→DgTo ((((w.setCell ⟨D,0,none⟩ (.bool b1)).setCell ⟨D,1,none⟩ (.slice A1 l1 c1)).setCell ⟨D,2,none⟩ (.bool b2)).setCell ⟨D,3,none⟩ (.slice A2 l2 c2)) ((((w.setCell ⟨D,0,none⟩ (.bool b1)).setCell ⟨D,1,none⟩ (.slice A1 l1 c1)).setCell ⟨D,2,none⟩ (.bool b2)).setCell ⟨D,3,none⟩ (.slice A2 l2 c2)).heap.size v x k:=fun h=>by
  have g1:=DgTo.set h z0 (fun z=>by simp) (.bool b1);have g2:=DgTo.set g1 (u:=.slice none 0 0) z1 (fun z=>by simp) (.slice A1 l1 c1);have g3:=DgTo.set g2 (u:=.bool false) z2 (fun z=>by simp) (.bool b2);have g4:=DgTo.set g3 (u:=.slice none 0 0) z3 (fun z=>by simp) (.slice A2 l2 c2);exact DgTo.mono g4 (by simp[World.setCell])
 exact⟨_,_,_,_,_,_,_,_,(((hD.set_ 0 (.bool b1)).set_ 1 (.slice A1 l1 c1)).set_ 2 (.bool b2)).set_ 3 (.slice A2 l2 c2),_,_,_,_,N,E,rfl,⟨h4.1,fJ h4.2⟩,⟨h5.1,fJ h5.2⟩,h6⟩
