/- Lemmas. -/
import Derived.Test.YtfhmbechennkbaaGreatDoorC4
import Derived.Test.YtfhmbechennkbaaGreatDoorR4
namespace Go.Proofs.YtfhmbechennkbaaGreatDoor
set_option maxRecDepth 100000
set_option maxHeartbeats 40000000
open Go.RowKit Go.Shelf
theorem tG (b:BeamT):bA b=((0:Int):Rat)-dF b (ak b 0):=rfl
theorem CQ (v:Value) (b:BeamT) (a:Int) (w:World) (hv:BeamAt w w.heap.size v b) (hb:BeamOk b) (LU:0≤a) (ha1:a≤b.len) (hT:∀ (u:Value) (w1:World),BeamAt w1 w1.heap.size u b→Calls Tryz.prog 204 #[u] w1 (TurnedPost b w1)) :
  Calls Tryz.prog 169 #[v,.int .i64 a] w (fa w (dF (au b) (b.len-a)) 1270):=by
 have Mz:=hv
 obtain⟨As,cs,Al,cl,rfl,-⟩:=hv
 have h5:=hb.len
 have HbT:=zh (lT hb)
 have HT:=zh hT
 have HA:Y0 (0≤b.len-a∧b.len-a≤b.len):=by unfold Y0;omega
 have v0:IntKind.i64.wrap (b.len-a)=b.len-a:=yF _ (by omega)
 have hbW:Below w.heap.size w ((w.alloc (.cells (zC b As cs Al cl) 122)).alloc (.cells (zD false none 0 0 false none 0 0) 175)):=((yB _ w).alloc (yA _) _).alloc (by simp) _
 have B1:=(Blk.new w 122 (zC b As cs Al cl)).alloc (.cells (zD false none 0 0 false none 0 0) 175)
 have B3:=Blk.new (w.alloc (.cells (zC b As cs Al cl) 122)) 175 (zD false none 0 0 false none 0 0)
 rw[yZ] at B3
 have HV:=zh (Mz.grow hbW)
 have bw:=zh hbW
 clear hbW Mz hT hb
 go_enter Tryz.func169,Tryz.ntmps169
 go_upto_region 1 with fail
 generalize (w.alloc (.cells (zC b As cs Al cl) 122)).alloc (.cells (zD false none 0 0 false none 0 0) 175)=W2 at *
 obtain⟨y0,y1,y2,y3,y4⟩:=B1.c5
 have u0:=YL y0
 have u1:=YL y1
 have u2:=YL y2
 have u3:=YL y3
 have u4:=YL y4
 have B3:=zh B3
 clear y0 y1 y2 y3 y4 B1
 refine ag 7 (fun i=>if i=1 then some (gB (au b)) else if i=6 then some (jb (dF (au b) (b.len-a)) 1270) else none) (by kernel_rfl) (by kernel_rfl) ?_
 simp only[aU,aT,aW,aX]
 refine ae 1 (by kernel_rfl) (by rfl) (by decide) ?_
 simp only[aU,aT,aW,aX]
 repeat (go_big_quiet_step (fail))
 refine YH ?_
 refine af rfl rfl ?_ ?_
 ·intro w1 ao hk
  exact⟨204,#[.agg (zC b As cs Al cl)],by go_simp,TurnedPost.g (HT.o _ w1 (HV.o.grow ao))⟩
 rintro _ ⟨Rp,Rn,Rq,Ro,rfl⟩
 simp only[Act.put,aJ,aI,aH]
 refine ae 4 (by kernel_rfl) (by rfl) (by decide) ?_
 simp only[aU,aT,aW,aX]
 repeat (go_big_quiet_step (fail))
 refine YH ?_
 refine af rfl rfl ?_ ?_
 ·intro w1 ao hk
  have h6:BeamAt w1 w1.heap.size (.agg (zC (au b) Rp Rn Rq Ro)) (au b):=hk 6 (by decide)
  exact⟨168,#[.agg (zC (au b) Rp Rn Rq Ro),.int .i64 (b.len-a)],by go_simp,Zg (K3 _ (au b) (b.len-a) w1 h6 HbT.o HA.o.1 HA.o.2)⟩
 rintro _ ⟨r1,R1,l1,c1,r2,R2,l2,c2,rfl⟩
 simp only[Act.put,aJ,aI,aH]
 refine Zc ?_
 intro w8 aM hF
 have HL:Y0 (ExqAt w8 w8.heap.size (.agg (zD r1 R1 l1 c1 r2 R2 l2 c2)) (dF (au b) (b.len-a)) 1270):=hF 11
 have bj:=zh (B3.o.below aM B3.o.lt)
 have dP:=zh (bw.o.trans (aM.mono bw.o.size))
 have dQ:=zh (jC (w:=w) (YK _) dP.o bj.o HL.o)
 have q0:=bj.o.cell 0
 have q1:=bj.o.cell 1
 have q2:=bj.o.cell 2
 have q3:=bj.o.cell 3
 have f0:=bj.o.frozen 0
 have f1:=bj.o.frozen 1
 have f2:=bj.o.frozen 2
 have f3:=bj.o.frozen 3
 simp only[aP,aQ,aO] at q0 q1 q2 q3
 clear hF aM u0 u1 u2 u3 u4
 go_wp2_with fail
 refine YI (v:=.agg (zD r1 R1 l1 c1 r2 R2 l2 c2)) (by simp[results,Tryz.results169,go_sem,q0,q1,q2,q3]) rfl ?_
 exact⟨_,rfl,dQ.o.1,dQ.o.2⟩
theorem qqF {x y z:Int} (h1:x.natAbs≤1152921504606846976) (h2:y.natAbs≤1152921504606846976) (h3:z.natAbs≤1152921504606846976):∀ u∈[x,y,z],u.natAbs≤1152921504606846976:=fun u hu=>by
 simp at hu
 rcases hu with rfl | rfl | rfl
 ·exact h1
 ·exact h2
 exact h3
theorem qqO (v:Value) (b:BeamT) (lo hi:Int) (w:World) (hv:BeamAt w w.heap.size v b) (hb:BeamOk b) (LU:0≤lo) (ha1:lo<hi) (ha2:hi≤b.len):Calls Tryz.prog 172 #[v,.int .i64 hi,.int .i64 lo] w (fa w (cZ b lo hi true) 1270):=by
 obtain⟨As,cs,Al,cl,rfl,hS,hL⟩:=hv
 obtain⟨_,_,e,_,dW,oN⟩:=hL.open_
 injection e with e1 _ e2
 subst e1 e2
 have h2:=hb.loads1
 have h3:=hb.even
 have h5:=hb.len
 unfold maxLen at dW
 have vn:=zh oN
 have Hb:=zh hb
 obtain⟨Zp,h32⟩:=h3
 obtain⟨h51,h52⟩:=h5
 obtain⟨s,hs⟩:∃ s,s=hi-lo:=⟨_,rfl⟩
 have Hs:=zh hs
 have s1:1≤s:=by omega
 have s2:s≤1048576:=by omega
 have v0:IntKind.i64.wrap (hi-lo)=s:=(yF _ (by omega)).trans hs.symm
 have d0:decide (s<0)=false:=yC (by omega)
 have d1:decide (hi<lo)=false:=yC (by omega)
 clear oN hb hS hL hs
 go_enter Tryz.func172,Tryz.ntmps172
 go_wp2_with fail
 have hI:=iM ((w.alloc (.cells (zC b As cs Al cl) 122)).alloc (.cells (zD false none 0 0 false none 0 0) 175)) 3 [b.even,s,s,s] (yU rfl)
 have dK:((w.alloc (.cells (zC b As cs Al cl) 122)).alloc (.cells (zD false none 0 0 false none 0 0) 175)).heap.size=w.heap.size+1+1:=by simp
 rw[dK] at hI
 refine (eE 4000 _ [b.even,s,s,s] _ hI (yU rfl) (fun x hx=>?_) (by decide) (by decide)).mono ?_
 ·simp at hx
  omega
 rintro e w1 ⟨v1,rfl,mh,li⟩
 obtain⟨m1,B1,k1,d1,m2,B2,k2,d2,_,_,rfl,-⟩:=bR li
 have rZ:=((yB _ ((w.alloc (.cells (zC b As cs Al cl) 122)).alloc (.cells (zD false none 0 0 false none 0 0) 175))).alloc (yA _) (.cells #[.int .i64 b.even,.int .i64 s,.int .i64 s,.int .i64 s] 3)).trans (mh.mono (by simp))
 rw[dK] at rZ
 have aS:=zh (SumQ.start rZ li)
 have HH:Y0 (bB b lo hi true 0=Zu 4000 [b.even,s,s,s]):=by unfold Y0;rw[Hs.o];rfl
 clear hI dK mh li rZ
 go_wp2_with fail
 generalize w1.heap.size=Ds at *
 rw[← HH.o] at aS
 clear HH
 go_loopw [9] (fun ix wr=>∃ k:Nat,k≤b.loads.length∧ix = .int .i64 k∧Y0 (SumQ w wr (zC b As cs Al cl) Ds (bB b lo hi true k) (30+31*k))) (fun ix _=>b.loads.length-(intOf ix).toNat)
 case atStart=>exact⟨0,yI _,rfl,aS⟩
 clear aS
 obtain⟨k,hk,rfl,aS⟩:=hrel
 have k0:(0:Int)≤(k:Int):=yE _
 have c3:=aS.o.bm.cell 3
 obtain⟨gM,gQ,gH,gK,gL,gP,gG,gJ,hB,hE⟩:=aS.o.sum
 have y0:=hB.cell 0
 have y1:=hB.cell 1
 have y2:=hB.cell 2
 have y3:=hB.cell 3
 simp only[aP,aQ,aO] at y0 y1 y2 y3 c3
 have HE:=zh hE
 clear hB hE
 by_cases aB:k<b.loads.length
 ·have k1:(k:Int)<(b.loads.length:Int):=by omega
  obtain⟨b2,o2,rfl,aw,dW⟩:=vn.o k aB
  obtain⟨cW,cT⟩:=dW k aB
  have cW:=(aS.o.bel.cell (p:=⟨b2,o2+k*2,none⟩) aw).trans cW
  have cT:=(aS.o.bel.cell (p:=⟨b2,o2+k*2+1,none⟩) aw).trans cT
  obtain⟨p1,p2,p3,p4⟩:=Hb.o.loads _ (yV aB)
  have lg:=zh (Zl (b:=b) (f:=lU lo hi true) (s:=Zu 4000 [b.even,hi-lo,hi-lo,hi-lo]) aB)
  clear dW
  generalize b.loads[k]=x at *
  obtain⟨pos,wt⟩:=x
  simp only at cW cT p1 p2 p3 p4
  obtain⟨o,ho⟩:∃ o,o=pos-lo:=⟨_,rfl⟩
  have Ho:=zh ho
  have v2:IntKind.i64.wrap (pos-lo)=o:=(yF _ (by omega)).trans (by omega)
  by_cases qN:0<o∧o<s
  ·have e1:decide (0<o)=true:=yD qN.1
   have e2:decide (o<s)=true:=yD qN.2
   have HT:Y0 (bB b lo hi true (k+1)=bB b lo hi true k+Zu s [wt,o,s*s-o*o]):=by
    have:=Hs.o
    unfold Y0 bB
    rw[lg.o]
    unfold lU
    rw[if_neg (show ¬ (pos≤lo∨hi≤pos) by omega)]
    simp only[if_true]
    rw[← Ho.o,← Hs.o]
   have hss:0≤s*s∧s*s≤1099511627776:=⟨Int.mul_nonneg (by omega) (by omega),Int.mul_le_mul s2 s2 (by omega) (by decide)⟩
   have hoo:0≤o*o∧o*o≤1099511627776:=⟨Int.mul_nonneg (by omega) (by omega),Int.mul_le_mul (show o≤1048576 by omega) (show o≤1048576 by omega) (by omega) (by decide)⟩
   have w1:IntKind.i64.wrap (s*s)=s*s:=yF _ (by omega)
   have w2:IntKind.i64.wrap (o*o)=o*o:=yF _ (by omega)
   have w3:IntKind.i64.wrap (s*s-o*o)=s*s-o*o:=yF _ (by omega)
   have mz:o.natAbs≤1152921504606846976:=by omega
   have jU:wt.natAbs≤1152921504606846976:=by omega
   have sO:(s*s-o*o).natAbs≤1152921504606846976:=by omega
   clear lg hss hoo qN ho
   go_upto_region 12 with fail
   have u0:=YL y0
   have u1:=YL y1
   have u2:=YL y2
   have u3:=YL y3
   have u4:=YL cW
   have u5:=YL cT
   have u6:=YL c3
   clear y0 y1 y2 y3 cW cT c3
   refine ag 19 (fun i=>if i=15 then some (gI [wt,o,s*s-o*o]) else if i=17 then some (jb (Zu s [wt,o,s*s-o*o]) 30) else if i=18 then some (jb (bB b lo hi true k+Zu s [wt,o,s*s-o*o]) (30+31*(k+1))) else none) (by kernel_rfl) (by kernel_rfl) ?_
   simp only[aU,aT,aW,aX]
   refine ae 15 (by kernel_rfl) (by rfl) (by decide) ?_
   simp only[aU,aT,aW,aX]
   repeat (go_big_quiet_step (fail))
   refine YH ?_
   refine br rfl rfl (fun w1 ao _=>en (T:=3) (l:=[wt,o,s*s-o*o]) (yU rfl) (by go_simp)) ?_
   rintro _ ⟨Xd,rfl⟩
   simp only[Act.put,aJ,aI,aH]
   refine ae 1 (by kernel_rfl) (by rfl) (by decide) ?_
   simp only[aU,aT,aW,aX]
   repeat (go_big_quiet_step (fail))
   refine YH ?_
   refine af rfl rfl ?_ ?_
   ·intro w1 ao hk
    have h35:bO w1 w1.heap.size (.slice (some ⟨Xd,0,none⟩) 3 3) [wt,o,s*s-o*o]:=hk 74 (by decide)
    have hC:=Zg (eE s _ [wt,o,s*s-o*o] w1 h35 (yU rfl) (qqF jU mz sO) (by omega) (by omega))
    exact⟨134,#[.slice (some ⟨Xd,0,none⟩) 3 3,.int .i64 s],by go_simp,hC⟩
   rintro _ ⟨nR,nT,nN,nP,nQ,nS,nM,nO,rfl⟩
   simp only[Act.put,aJ,aI,aH]
   refine af rfl rfl ?_ ?_
   ·intro w1 ao hk
    have h36:ExqAt w1 w1.heap.size (.agg (zD nR nT nN nP nQ nS nM nO)) (Zu s [wt,o,s*s-o*o]) 30:=hk 76 (by decide)
    have hC:=Zg (ft _ _ _ _ (30+31*k) 30 w1 (HE.o.grow ao) h36 (by omega))
    exact⟨133,#[.agg (zD gM gQ gH gK gL gP gG gJ),.agg (zD nR nT nN nP nQ nS nM nO)],by go_simp,hC⟩
   rintro _ ⟨wO,wQ,wK,wM,wN,wP,wJ,wL,rfl⟩
   simp only[Act.put,aJ,aI,aH]
   refine Zc ?_
   intro w8 aM hF
   have WT:ExqAt w8 w8.heap.size (.agg (zD wO wQ wK wM wN wP wJ wL)) (bB b lo hi true k+Zu s [wt,o,s*s-o*o]) (30+31*(k+1)):=hF 77
   have HL:=zh WT
   have iV:=zh (aS.o.grow aM)
   obtain⟨_,_,_,_,_,_,_,_,h1,-⟩:=iV.o.sum
   have q0:=h1.cell 0
   have q1:=h1.cell 1
   have q2:=h1.cell 2
   have q3:=h1.cell 3
   have f0:=h1.frozen 0
   have f1:=h1.frozen 1
   have f2:=h1.frozen 2
   have f3:=h1.frozen 3
   simp only[aP,aQ,aO] at q0 q1 q2 q3
   rw[← HT.o] at HL
   clear hF u0 u1 u2 u3 u4 u5 u6 aM WT h1 HE aS
   go_wp2_with fail
   have ny:=zh (iV.o.put HL.o)
   clear q0 q1 q2 q3 f0 f1 f2 f3 HL iV
   go_roundw
   case rel=>exact⟨k+1,by omega,by go_num,ny⟩
   simp[intOf];omega
  have HT:Y0 (bB b lo hi true (k+1)=bB b lo hi true k):=by
   have:=Hs.o
   unfold Y0 bB
   rw[lg.o]
   unfold lU
   rw[if_pos (show pos≤lo∨hi≤pos by omega)]
  have fF:Y0 (SumQ w wr (zC b As cs (some ⟨b2,o2,none⟩) cl) Ds (bB b lo hi true (k+1)) (30+31*(k+1))):=by
   rw[HT.o]
   exact aS.o.more (by omega)
  have hc:decide (0<o)=false∨decide (0<o)=true∧decide (o<s)=false:=by
   by_cases h:0<o
   ·exact .inr ⟨yD h,yC (by omega)⟩
   exact .inl (yC h)
  clear lg aS HT qN ho
  rcases hc with e1 | ⟨e1,e2⟩
  all_goals
   go_wp2_with fail
   go_roundw
   case rel=>exact⟨k+1,by omega,by go_num,fF⟩
   simp[intOf];omega
 obtain rfl:k=b.loads.length:=by omega
 have r0:=aS.o.res.cell 0
 have r1:=aS.o.res.cell 1
 have r2:=aS.o.res.cell 2
 have r3:=aS.o.res.cell 3
 have f0:=aS.o.res.frozen 0
 have f1:=aS.o.res.frozen 1
 have f2:=aS.o.res.frozen 2
 have f3:=aS.o.res.frozen 3
 simp only[aP,aQ,aO] at r0 r1 r2 r3
 have dQ:=zh (jC (w:=w) (YK _) aS.o.bel aS.o.res (HE.o.more (K':=1270) (by omega)))
 clear aS
 go_wp2_with fail
 refine YI (v:=.agg (zD gM gQ gH gK gL gP gG gJ)) (by simp[results,Tryz.results172,go_sem,r0,r1,r2,r3]) rfl ?_
 exact⟨_,rfl,dQ.o.1,dQ.o.2⟩
theorem qqP (v:Value) (b:BeamT) (lo hi:Int) (w:World) (hv:BeamAt w w.heap.size v b) (hb:BeamOk b) (LU:0≤lo) (ha1:lo<hi) (ha2:hi≤b.len):Calls Tryz.prog 172 #[v,.int .i64 lo,.int .i64 hi] w (fa w (cZ b lo hi false) 1270):=by
 obtain⟨As,cs,Al,cl,rfl,hS,hL⟩:=hv
 obtain⟨_,_,e,_,dW,oN⟩:=hL.open_
 injection e with e1 _ e2
 subst e1 e2
 have h2:=hb.loads1
 have h3:=hb.even
 have h5:=hb.len
 unfold maxLen at dW
 have vn:=zh oN
 have Hb:=zh hb
 obtain⟨Zp,h32⟩:=h3
 obtain⟨h51,h52⟩:=h5
 obtain⟨s,hs⟩:∃ s,s=hi-lo:=⟨_,rfl⟩
 have Hs:=zh hs
 have s1:1≤s:=by omega
 have s2:s≤1048576:=by omega
 have v0:IntKind.i64.wrap (lo-hi) = -s:=(yF _ (by omega)).trans (by omega)
 have v1:IntKind.i64.wrap (hi-lo)=s:=(yF _ (by omega)).trans hs.symm
 have d0:decide (-s<0)=true:=yD (by omega)
 have d1:decide (lo<hi)=true:=yD (by omega)
 clear oN hb hS hL hs
 go_enter Tryz.func172,Tryz.ntmps172
 go_wp2_with fail
 have hI:=iM ((w.alloc (.cells (zC b As cs Al cl) 122)).alloc (.cells (zD false none 0 0 false none 0 0) 175)) 3 [b.even,s,s,s] (yU rfl)
 have dK:((w.alloc (.cells (zC b As cs Al cl) 122)).alloc (.cells (zD false none 0 0 false none 0 0) 175)).heap.size=w.heap.size+1+1:=by simp
 rw[dK] at hI
 refine (eE 4000 _ [b.even,s,s,s] _ hI (yU rfl) (fun x hx=>?_) (by decide) (by decide)).mono ?_
 ·simp at hx
  omega
 rintro e w1 ⟨v1,rfl,mh,li⟩
 obtain⟨m1,B1,k1,d1,m2,B2,k2,d2,_,_,rfl,-⟩:=bR li
 have rZ:=((yB _ ((w.alloc (.cells (zC b As cs Al cl) 122)).alloc (.cells (zD false none 0 0 false none 0 0) 175))).alloc (yA _) (.cells #[.int .i64 b.even,.int .i64 s,.int .i64 s,.int .i64 s] 3)).trans (mh.mono (by simp))
 rw[dK] at rZ
 have aS:=zh (SumQ.start rZ li)
 have HH:Y0 (bB b lo hi false 0=Zu 4000 [b.even,s,s,s]):=by unfold Y0;rw[Hs.o];rfl
 clear hI dK mh li rZ
 go_wp2_with fail
 generalize w1.heap.size=Ds at *
 rw[← HH.o] at aS
 clear HH
 go_loopw [9] (fun ix wr=>∃ k:Nat,k≤b.loads.length∧ix = .int .i64 k∧Y0 (SumQ w wr (zC b As cs Al cl) Ds (bB b lo hi false k) (30+31*k))) (fun ix _=>b.loads.length-(intOf ix).toNat)
 case atStart=>exact⟨0,yI _,rfl,aS⟩
 clear aS
 obtain⟨k,hk,rfl,aS⟩:=hrel
 have k0:(0:Int)≤(k:Int):=yE _
 have c3:=aS.o.bm.cell 3
 obtain⟨gM,gQ,gH,gK,gL,gP,gG,gJ,hB,hE⟩:=aS.o.sum
 have y0:=hB.cell 0
 have y1:=hB.cell 1
 have y2:=hB.cell 2
 have y3:=hB.cell 3
 simp only[aP,aQ,aO] at y0 y1 y2 y3 c3
 have HE:=zh hE
 clear hB hE
 by_cases aB:k<b.loads.length
 ·have k1:(k:Int)<(b.loads.length:Int):=by omega
  obtain⟨b2,o2,rfl,aw,dW⟩:=vn.o k aB
  obtain⟨cW,cT⟩:=dW k aB
  have cW:=(aS.o.bel.cell (p:=⟨b2,o2+k*2,none⟩) aw).trans cW
  have cT:=(aS.o.bel.cell (p:=⟨b2,o2+k*2+1,none⟩) aw).trans cT
  obtain⟨p1,p2,p3,p4⟩:=Hb.o.loads _ (yV aB)
  have lg:=zh (Zl (b:=b) (f:=lU lo hi false) (s:=Zu 4000 [b.even,hi-lo,hi-lo,hi-lo]) aB)
  clear dW
  generalize b.loads[k]=x at *
  obtain⟨pos,wt⟩:=x
  simp only at cW cT p1 p2 p3 p4
  obtain⟨o,ho⟩:∃ o,o=hi-pos:=⟨_,rfl⟩
  have Ho:=zh ho
  have v2:IntKind.i64.wrap (pos-hi) = -o:=(yF _ (by omega)).trans (by omega)
  have v3:IntKind.i64.wrap (hi-pos)=o:=(yF _ (by omega)).trans ho.symm
  by_cases qN:0<o∧o<s
  ·have e1:decide (0<o)=true:=yD qN.1
   have e2:decide (o<s)=true:=yD qN.2
   have HT:Y0 (bB b lo hi false (k+1)=bB b lo hi false k+Zu s [wt,o,s*s-o*o]):=by
    have:=Hs.o
    unfold Y0 bB
    rw[lg.o]
    unfold lU
    rw[if_neg (show ¬ (pos≤lo∨hi≤pos) by omega)]
    simp only[Bool.false_eq_true,if_false]
    rw[← Ho.o,← Hs.o]
   have hss:0≤s*s∧s*s≤1099511627776:=⟨Int.mul_nonneg (by omega) (by omega),Int.mul_le_mul s2 s2 (by omega) (by decide)⟩
   have hoo:0≤o*o∧o*o≤1099511627776:=⟨Int.mul_nonneg (by omega) (by omega),Int.mul_le_mul (show o≤1048576 by omega) (show o≤1048576 by omega) (by omega) (by decide)⟩
   have w1:IntKind.i64.wrap (s*s)=s*s:=yF _ (by omega)
   have w2:IntKind.i64.wrap (o*o)=o*o:=yF _ (by omega)
   have w3:IntKind.i64.wrap (s*s-o*o)=s*s-o*o:=yF _ (by omega)
   have mz:o.natAbs≤1152921504606846976:=by omega
   have jU:wt.natAbs≤1152921504606846976:=by omega
   have sO:(s*s-o*o).natAbs≤1152921504606846976:=by omega
   clear lg hss hoo qN ho
   go_upto_region 12 with fail
   have u0:=YL y0
   have u1:=YL y1
   have u2:=YL y2
   have u3:=YL y3
   have u4:=YL cW
   have u5:=YL cT
   have u6:=YL c3
   clear y0 y1 y2 y3 cW cT c3
   refine ag 19 (fun i=>if i=15 then some (gI [wt,o,s*s-o*o]) else if i=17 then some (jb (Zu s [wt,o,s*s-o*o]) 30) else if i=18 then some (jb (bB b lo hi false k+Zu s [wt,o,s*s-o*o]) (30+31*(k+1))) else none) (by kernel_rfl) (by kernel_rfl) ?_
   simp only[aU,aT,aW,aX]
   refine ae 15 (by kernel_rfl) (by rfl) (by decide) ?_
   simp only[aU,aT,aW,aX]
   repeat (go_big_quiet_step (fail))
   refine YH ?_
   refine br rfl rfl (fun w1 ao _=>en (T:=3) (l:=[wt,o,s*s-o*o]) (yU rfl) (by go_simp)) ?_
   rintro _ ⟨Xd,rfl⟩
   simp only[Act.put,aJ,aI,aH]
   refine ae 1 (by kernel_rfl) (by rfl) (by decide) ?_
   simp only[aU,aT,aW,aX]
   repeat (go_big_quiet_step (fail))
   refine YH ?_
   refine af rfl rfl ?_ ?_
   ·intro w1 ao hk
    have h35:bO w1 w1.heap.size (.slice (some ⟨Xd,0,none⟩) 3 3) [wt,o,s*s-o*o]:=hk 74 (by decide)
    have hC:=Zg (eE s _ [wt,o,s*s-o*o] w1 h35 (yU rfl) (qqF jU mz sO) (by omega) (by omega))
    exact⟨134,#[.slice (some ⟨Xd,0,none⟩) 3 3,.int .i64 s],by go_simp,hC⟩
   rintro _ ⟨nR,nT,nN,nP,nQ,nS,nM,nO,rfl⟩
   simp only[Act.put,aJ,aI,aH]
   refine af rfl rfl ?_ ?_
   ·intro w1 ao hk
    have h36:ExqAt w1 w1.heap.size (.agg (zD nR nT nN nP nQ nS nM nO)) (Zu s [wt,o,s*s-o*o]) 30:=hk 76 (by decide)
    have hC:=Zg (ft _ _ _ _ (30+31*k) 30 w1 (HE.o.grow ao) h36 (by omega))
    exact⟨133,#[.agg (zD gM gQ gH gK gL gP gG gJ),.agg (zD nR nT nN nP nQ nS nM nO)],by go_simp,hC⟩
   rintro _ ⟨wO,wQ,wK,wM,wN,wP,wJ,wL,rfl⟩
   simp only[Act.put,aJ,aI,aH]
   refine Zc ?_
   intro w8 aM hF
   have WT:ExqAt w8 w8.heap.size (.agg (zD wO wQ wK wM wN wP wJ wL)) (bB b lo hi false k+Zu s [wt,o,s*s-o*o]) (30+31*(k+1)):=hF 77
   have HL:=zh WT
   have iV:=zh (aS.o.grow aM)
   obtain⟨_,_,_,_,_,_,_,_,h1,-⟩:=iV.o.sum
   have q0:=h1.cell 0
   have q1:=h1.cell 1
   have q2:=h1.cell 2
   have q3:=h1.cell 3
   have f0:=h1.frozen 0
   have f1:=h1.frozen 1
   have f2:=h1.frozen 2
   have f3:=h1.frozen 3
   simp only[aP,aQ,aO] at q0 q1 q2 q3
   rw[← HT.o] at HL
   clear hF u0 u1 u2 u3 u4 u5 u6 aM WT h1 HE aS
   go_wp2_with fail
   have ny:=zh (iV.o.put HL.o)
   clear q0 q1 q2 q3 f0 f1 f2 f3 HL iV
   go_roundw
   case rel=>exact⟨k+1,by omega,by go_num,ny⟩
   simp[intOf];omega
  have HT:Y0 (bB b lo hi false (k+1)=bB b lo hi false k):=by
   have:=Hs.o
   unfold Y0 bB
   rw[lg.o]
   unfold lU
   rw[if_pos (show pos≤lo∨hi≤pos by omega)]
  have fF:Y0 (SumQ w wr (zC b As cs (some ⟨b2,o2,none⟩) cl) Ds (bB b lo hi false (k+1)) (30+31*(k+1))):=by
   rw[HT.o]
   exact aS.o.more (by omega)
  have hc:decide (0<o)=false∨decide (0<o)=true∧decide (o<s)=false:=by
   by_cases h:0<o
   ·exact .inr ⟨yD h,yC (by omega)⟩
   exact .inl (yC h)
  clear lg aS HT qN ho
  rcases hc with e1 | ⟨e1,e2⟩
  all_goals
   go_wp2_with fail
   go_roundw
   case rel=>exact⟨k+1,by omega,by go_num,fF⟩
   simp[intOf];omega
 obtain rfl:k=b.loads.length:=by omega
 have r0:=aS.o.res.cell 0
 have r1:=aS.o.res.cell 1
 have r2:=aS.o.res.cell 2
 have r3:=aS.o.res.cell 3
 have f0:=aS.o.res.frozen 0
 have f1:=aS.o.res.frozen 1
 have f2:=aS.o.res.frozen 2
 have f3:=aS.o.res.frozen 3
 simp only[aP,aQ,aO] at r0 r1 r2 r3
 have dQ:=zh (jC (w:=w) (YK _) aS.o.bel aS.o.res (HE.o.more (K':=1270) (by omega)))
 clear aS
 go_wp2_with fail
 refine YI (v:=.agg (zD gM gQ gH gK gL gP gG gJ)) (by simp[results,Tryz.results172,go_sem,r0,r1,r2,r3]) rfl ?_
 exact⟨_,rfl,dQ.o.1,dQ.o.2⟩
theorem Vx {n K:Nat} (h:n<4294967296 ^ K):aj n≤(4*K+2) / 3:=jE (by
 rw[qV]
 have e:4294967296 ^ K=2 ^ (32*K):=by rw[Nat.pow_mul]
 rw[e] at h
 exact yK h (Nat.pow_le_pow_right (by decide) (by omega)))
theorem NM {q:Rat} {K:Nat} (h:bT q K):aj q.num.natAbs≤(4*K+2) / 3∧aj q.den≤(4*K+2) / 3:=⟨Vx h.1,Vx h.2⟩
theorem nK (v:Value) (x:Rat) (K M:Nat) (w:World) (hv:ExqAt w w.heap.size v x K) (hK:K≤300000) (hx:bT x M):Calls Tryz.prog 137 #[v] w (fa w x ((4*M+2) / 3)) :=
 (En v x K w hv hK).mono fun _ _ h=>Nu h (NM hx).1 (NM hx).2
theorem Pg {b:BeamT} (h:BeamOk b) {i:Nat} (hi:i<b.sup.length):bT (Zx b i) 50647:=by
 have h1:=h.sup1
 unfold Zx
 split
 ·exact aN (dM h) (by decide)
 exact aN (tP h (b.sup.length-1-i) (by omega)) (by omega)
theorem Nk {b:BeamT} (h:BeamOk b) (hz:∀ i,1 ≤ i→i + 1 < b.sup.length→bH b i ≠ 0):∀ i,i + 1 < b.sup.length→bT (kf b i).1 5200 ∧ bT (kf b i).2 38
 | 0,_=>⟨aN (dM h) (by decide),aN (K:=1) (bp (n:=0) (by decide) (yA _)) (by decide)⟩
 | i+1,hi=>by
  have h1:=h.sup1
  obtain⟨-,h2,h3⟩:=Nj b hz i (by omega)
  rw[h2,h3]
  exact⟨aN (dX (mT h (i:=i+1) (by omega) (by omega)) (nI h (i+1) (by omega) (by omega)) (jw h (i+1) (by omega) (by omega))) (by omega),aN (dX (mT h (i:=i+1) (by omega) (by omega)) (kD h (i:=i+2) (by omega) (by omega)) (jw h (i+1) (by omega) (by omega))) (by omega)⟩
def EqRow (w:World) (g n:Nat) (f:Nat→Option Rat) (K:Nat):Prop:=∃ es:List E4,es.length=n∧Blk w g 175 (es.flatMap E4.cells).toArray∧∀ j (hj:j<es.length) q,f j=some q→ExqAt w w.heap.size es[j].val q K
section
variable {w w':World} {g n:Nat} {f:Nat→Option Rat} {K:Nat}
theorem EqRow.blk (h:EqRow w g n f K):∃ cs,Blk w g 175 cs:=by
 obtain⟨es,-,h,-⟩:=h
 exact⟨_,h⟩
theorem EqRow.lt (h:EqRow w g n f K):g<w.heap.size:=by
 obtain⟨cs,h⟩:=h.blk
 exact h.lt
theorem EqRow.frozen (h:EqRow w g n f K) (i:Nat):w.frozen? ⟨g,i,none⟩=false:=by
 obtain⟨cs,h⟩:=h.blk
 exact h.frozen i
theorem EqRow.grow (h:EqRow w g n f K) (hb:Below w.heap.size w w'):EqRow w' g n f K:=by
 obtain⟨es,h1,h2,h3⟩:=h
 exact⟨es,h1,h2.below hb h2.lt,fun j hj q hq=>(h3 j hj q hq).grow hb⟩
theorem EqRow.read (h:EqRow w g n f K) {i:Nat} (hi:i<n):∃ b1 A1 l1 c1 b2 A2 l2 c2,w.cell? ⟨g,i*4,none⟩=some (.bool b1)∧w.cell? ⟨g,i*4+1,none⟩=some (.slice A1 l1 c1)∧w.cell? ⟨g,i*4+2,none⟩=some (.bool b2)∧w.cell? ⟨g,i*4+3,none⟩=some (.slice A2 l2 c2) ∧
  ∀ q,f i=some q→ExqAt w w.heap.size (.agg (zD b1 A1 l1 c1 b2 A2 l2 c2)) q K:=by
 obtain⟨es,rfl,h2,h3⟩:=h
 have k:=fun (m:Nat) (hm:m<4)=>(h2.cell (i*4+m)).trans ((List.getElem?_toArray ..).trans (BA es i m hi hm))
 exact⟨_,_,_,_,_,_,_,_,k 0 (by decide),k 1 (by decide),k 2 (by decide),k 3 (by decide),fun q hq=>h3 i hi q hq⟩
theorem DgTo.set4 {B D o:Nat} {v:Value} {x k:Nat} (h:DgTo w B v x k) {u0 u1 u2 u3:Value} (k0:w.cell? ⟨D,o,none⟩=some u0) (k1:w.cell? ⟨D,o+1,none⟩=some u1) (k2:w.cell? ⟨D,o+2,none⟩=some u2) (k3:w.cell? ⟨D,o+3,none⟩=some u3) (n0:∀ z,u0 ≠ .int .i64 z) (n1:∀ z,u1 ≠ .int .i64 z) (n2:∀ z,u2 ≠ .int .i64 z) (n3:∀ z,u3 ≠ .int .i64 z) (x0 x1 x2 x3:Value) :
  DgTo ((((w.setCell ⟨D,o,none⟩ x0).setCell ⟨D,o+1,none⟩ x1).setCell ⟨D,o+2,none⟩ x2).setCell ⟨D,o+3,none⟩ x3) B v x k:=by
 have ne:∀ {W:World} {a b:Nat} {y:Value},a≠b→(W.setCell ⟨D,b,none⟩ y).cell? ⟨D,a,none⟩=W.cell? ⟨D,a,none⟩:=fun {W a b y} hab=>by
  rw[World.cell?_setCell_other]
  intro e
  injection e with _ e _
  exact hab e.symm
 have g1:=DgTo.set h k0 n0 x0
 have g2:=DgTo.set g1 ((ne (by omega)).trans k1) n1 x1
 have g3:=DgTo.set g2 ((ne (by omega)).trans ((ne (by omega)).trans k2)) n2 x2
 exact DgTo.set g3 ((ne (by omega)).trans ((ne (by omega)).trans ((ne (by omega)).trans k3))) n3 x3
theorem ExqAt.row {v:Value} {q:Rat} {K':Nat} (h:ExqAt w w.heap.size v q K') {es:List E4} (hD:Blk w g 175 (es.flatMap E4.cells).toArray) {i:Nat} (hi:i<es.length) (x0 x1 x2 x3:Value) :
  ExqAt ((((w.setCell ⟨g,i*4,none⟩ x0).setCell ⟨g,i*4+1,none⟩ x1).setCell ⟨g,i*4+2,none⟩ x2).setCell ⟨g,i*4+3,none⟩ x3) ((((w.setCell ⟨g,i*4,none⟩ x0).setCell ⟨g,i*4+1,none⟩ x1).setCell ⟨g,i*4+2,none⟩ x2).setCell ⟨g,i*4+3,none⟩ x3).heap.size v q K':=by
 have k:=fun (m:Nat) (hm:m<4)=>(hD.cell (i*4+m)).trans ((List.getElem?_toArray ..).trans (BA es i m hi hm))
 obtain⟨_,_,_,_,N,E,e,h4,h5,h6⟩:=h
 have oI:=fun {v:Value} {x m:Nat} (h:DgTo w w.heap.size v x m)=>DgTo.mono (DgTo.set4 h (k 0 (by decide)) (k 1 (by decide)) (k 2 (by decide)) (k 3 (by decide)) (fun z=>by simp) (fun z=>by simp) (fun z=>by simp) (fun z=>by simp) x0 x1 x2 x3) (show w.heap.size≤((((w.setCell ⟨g,i*4,none⟩ x0).setCell ⟨g,i*4+1,none⟩ x1).setCell ⟨g,i*4+2,none⟩ x2).setCell ⟨g,i*4+3,none⟩ x3).heap.size by simp[World.setCell])
 exact⟨_,_,_,_,N,E,e,⟨h4.1,oI h4.2⟩,⟨h5.1,oI h5.2⟩,h6⟩
theorem EqRow.write (h:EqRow w g n f K) {i:Nat} (hi:i<n) {b1:Bool} {A1:Option Addr} {l1 c1:Nat} {b2:Bool} {A2:Option Addr} {l2 c2:Nat} {q:Rat} (hE:ExqAt w w.heap.size (.agg (zD b1 A1 l1 c1 b2 A2 l2 c2)) q K) :
  EqRow ((((w.setCell ⟨g,i*4,none⟩ (.bool b1)).setCell ⟨g,i*4+1,none⟩ (.slice A1 l1 c1)).setCell ⟨g,i*4+2,none⟩ (.bool b2)).setCell ⟨g,i*4+3,none⟩ (.slice A2 l2 c2)) g n (eh f i q) K:=by
 obtain⟨es,rfl,h2,h3⟩:=h
 refine⟨es.set i ⟨b1,A1,l1,c1,b2,A2,l2,c2⟩,by simp,?_,fun j hj q' hq=>?_⟩
 ·have:=(((h2.set_ (i*4) (.bool b1)).set_ (i*4+1) (.slice A1 l1 c1)).set_ (i*4+2) (.bool b2)).set_ (i*4+3) (.slice A2 l2 c2)
  rw[Xw es i _ hi]
  simpa using this
 have hj':j<es.length:=by simpa using hj
 unfold eh at hq
 by_cases e:j=i
 ·subst e
  rw[if_pos rfl] at hq
  injection hq with hq
  subst hq
  simp only[List.getElem_set_self]
  exact hE.row h2 hi _ _ _ _
 rw[if_neg e] at hq
 rw[List.getElem_set_ne (fun e'=>e e'.symm)]
 exact (h3 j hj' q' hq).row h2 hi _ _ _ _
theorem EqRow.weak (h:EqRow w g n f K) {f':Nat→Option Rat} (hf:∀ j q,j<n→f' j=some q→f j=some q):EqRow w g n f' K:=by
 obtain⟨es,h1,h2,h3⟩:=h
 exact⟨es,h1,h2,fun j hj q hq=>h3 j hj q (hf j q (by omega) hq)⟩
end
theorem EqRow.made {w:World} {n:Nat} {B g K:Nat} (h:w.ownsRow B 175 4 (.slice (some ⟨g,0,none⟩) n n) n (madeCells (Value.cells (.agg (zD false none 0 0 false none 0 0))) (n*4)).toList):EqRow w g n (fun _=>none) K:=by
 rcases h.2 with⟨h',_⟩ | ⟨g2,cap,cur,h',_,h3,_,_,hs,ht⟩
 ·cases h'
 injection h' with h4 _ h5
 injection h4 with h4
 injection h4 with h4 _ _
 subst h4 h5
 rw[List.take_of_length_le (by rw[Array.length_toList,hs];exact yA _),Ns] at ht
 refine⟨List.replicate n ⟨false,none,0,0,false,none,0,0⟩,by simp,?_,fun j hj q hq=>by cases hq⟩
 unfold Blk
 rw[h3,← ht]
def Ca (B:Nat) (v:Value) (w:World):Prop:=∃ g,v = .pointer (some ⟨g,0,none⟩)∧B≤g∧Blk w g 175 #[.bool false,.slice none 0 0,.bool false,.slice none 0 0]
def gAq (B:Nat):GPost:=⟨fun v=>∃ g,v = .pointer (some ⟨g,0,none⟩),Ca B,⟨_,0,rfl⟩,fun _ _ _ hb h=>by
 obtain⟨g,h1,h2,h3⟩:=h
 exact⟨g,h1,h2,h3.below hb h3.lt⟩,true⟩
theorem vE {P:Program} {o:Oper} {a:Act} {w:World} {B:Nat} (hB:B≤w.heap.size) (h:(execOp a.eval o).run P w = .ok (.value (.pointer (some ⟨w.heap.size,0,none⟩))) (w.alloc (.cells (zD false none 0 0 false none 0 0) 175))):o7 P o a (gAq B) w :=
 ⟨_,_,h,(yB _ _).alloc (yA _) _,⟨_,rfl⟩,⟨_,rfl,hB,Blk.new _ _ _⟩,fun _=>⟨w.heap.size,rfl,yA _,by simp⟩⟩
theorem EqBox.more {w:World} {D:Nat} {q:Rat} {K K':Nat} (h:EqBox w D q K) (hK:K≤K'):EqBox w D q K':=by
 obtain⟨b1,A1,l1,c1,b2,A2,l2,c2,h1,h2⟩:=h
 exact⟨b1,A1,l1,c1,b2,A2,l2,c2,h1,h2.more hK⟩
theorem EqBox.first {w:World} {D:Nat} {q:Rat} {K:Nat} (hD:Blk w D 175 (zD false none 0 0 false none 0 0)) {b1:Bool} {A1:Option Addr} {l1 c1:Nat} {b2:Bool} {A2:Option Addr} {l2 c2:Nat} (hE:ExqAt w w.heap.size (.agg (zD b1 A1 l1 c1 b2 A2 l2 c2)) q K) :
  EqBox ((((w.setCell ⟨D,0,none⟩ (.bool b1)).setCell ⟨D,1,none⟩ (.slice A1 l1 c1)).setCell ⟨D,2,none⟩ (.bool b2)).setCell ⟨D,3,none⟩ (.slice A2 l2 c2)) D q K:=by
 obtain⟨_,_,_,_,N,E,e,h4,h5,h6⟩:=hE
 cases e
 have z0:=hD.cell 0
 have z1:=(hD.set_ 0 (.bool b1)).cell 1
 have z2:=((hD.set_ 0 (.bool b1)).set_ 1 (.slice A1 l1 c1)).cell 2
 have z3:=(((hD.set_ 0 (.bool b1)).set_ 1 (.slice A1 l1 c1)).set_ 2 (.bool b2)).cell 3
 simp only[aP,aO] at z0
 have oI:∀ {v:Value} {x k:Nat},DgTo w w.heap.size v x k→DgTo ((((w.setCell ⟨D,0,none⟩ (.bool b1)).setCell ⟨D,1,none⟩ (.slice A1 l1 c1)).setCell ⟨D,2,none⟩ (.bool b2)).setCell ⟨D,3,none⟩ (.slice A2 l2 c2)) ((((w.setCell ⟨D,0,none⟩ (.bool b1)).setCell ⟨D,1,none⟩ (.slice A1 l1 c1)).setCell ⟨D,2,none⟩ (.bool b2)).setCell ⟨D,3,none⟩ (.slice A2 l2 c2)).heap.size v x k:=fun h=>by
  have g1:=DgTo.set h z0 (fun z=>by simp) (.bool b1)
  have g2:=DgTo.set g1 (u:=.slice none 0 0) z1 (fun z=>by simp) (.slice A1 l1 c1)
  have g3:=DgTo.set g2 (u:=.bool false) z2 (fun z=>by simp) (.bool b2)
  have g4:=DgTo.set g3 (u:=.slice none 0 0) z3 (fun z=>by simp) (.slice A2 l2 c2)
  exact DgTo.mono g4 (by simp[World.setCell])
 exact⟨_,_,_,_,_,_,_,_,(((hD.set_ 0 (.bool b1)).set_ 1 (.slice A1 l1 c1)).set_ 2 (.bool b2)).set_ 3 (.slice A2 l2 c2),_,_,_,_,N,E,rfl,⟨h4.1,oI h4.2⟩,⟨h5.1,oI h5.2⟩,h6⟩
end Go.Proofs.YtfhmbechennkbaaGreatDoor
