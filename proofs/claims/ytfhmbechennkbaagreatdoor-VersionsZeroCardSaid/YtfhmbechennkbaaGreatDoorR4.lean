/- Lemmas. -/
import Derived.Test.YtfhmbechennkbaaGreatDoorR3
namespace Go.Proofs.YtfhmbechennkbaaGreatDoor
set_option maxRecDepth 100000
set_option maxHeartbeats 40000000
open Go.RowKit Go.Shelf
structure RgFr (w wr:World) (g4 B:Nat) (s1 s2:Bool) (v1 v2:Value) (N M:Nat):Prop where
 bel:Below w.heap.size w wr
 gw:w.heap.size+1<g4
 gB:g4<B
 Bw:B≤wr.heap.size
 res:Blk wr (w.heap.size+1) 82 #[.int .i64 0,.int .i64 0]
 low:Blk wr g4 175 #[.bool s1,v1,.bool s2,v2]
 n1:dI wr B v1 N
 n2:dI wr B v2 M
section
variable {w wr w':World} {g4 B g6:Nat} {s1 s2:Bool} {v1 v2:Value} {N M:Nat} {cs:Array Value}
theorem RgFr.below (h:RgFr w wr g4 B s1 s2 v1 v2 N M) (hb:Below B wr w'):RgFr w w' g4 B s1 s2 v1 v2 N M :=
 have h1:=h.gw
 have h2:=h.gB
 ⟨h.bel.trans (hb.mono (by omega)),h1,h2,yH h.Bw hb.size,h.res.below hb (by omega),h.low.below hb h2,DgTo.below h.n1 hb (yA _),DgTo.below h.n2 hb (yA _)⟩
theorem RgFr.up (h:RgFr w wr g4 B s1 s2 v1 v2 N M):RgFr w wr g4 wr.heap.size s1 s2 v1 v2 N M :=
 ⟨h.bel,h.gw,yK h.gB h.Bw,yA _,h.res,h.low,DgTo.mono h.n1 h.Bw,DgTo.mono h.n2 h.Bw⟩
theorem RgFr.grow (h:RgFr w wr g4 B s1 s2 v1 v2 N M) (hb:Below wr.heap.size wr w'):RgFr w w' g4 w'.heap.size s1 s2 v1 v2 N M:=(h.up.below hb).up
theorem RgFr.set (h:RgFr w wr g4 B s1 s2 v1 v2 N M) (hb:Blk wr B 82 cs) (i:Nat) (u:Value):RgFr w (wr.setCell ⟨B,i,none⟩ u) g4 B s1 s2 v1 v2 N M∧Blk (wr.setCell ⟨B,i,none⟩ u) B 82 (cs.setIfInBounds i u) :=
 ⟨h.below ((yB _ wr).setCell (p:=⟨B,i,none⟩) (yA _) _),hb.set_ i u⟩
end
theorem NL (N i:Nat):16777216*(N / 16777216 ^ (i+1))+ay N i=N / 16777216 ^ i:=by
 rw[yW,← YB]
 exact Nat.div_add_mod _ _
theorem qqJ {x:Rat} (s:Bool) (hs:s=decide (x.num<0)):(s=true→x.num = -(x.num.natAbs:Int))∧(s=false→x.num=(x.num.natAbs:Int)):=by
 subst hs
 exact⟨fun h=>by have:=yG h;omega,fun h=>by have:=of_decide_eq_false h;omega⟩
theorem K4 (v:Value) (x:Rat) (K:Nat) (w:World) (hv:ExqAt w w.heap.size v x K) (hK:K≤300000) :
  Calls Tryz.prog 130 #[v] w fun e w'=>e = .returned (jO x)∧Below w.heap.size w w':=by
 obtain⟨b1,A1,l1,c1,b2,A2,l2,c2,_,_,rfl,-⟩:=bR hv
 have HK:=zh hK
 have B1:=(Blk.new w 175 (zD b1 A1 l1 c1 b2 A2 l2 c2)).alloc (.cells #[.int .i64 0,.int .i64 0] 82)
 have B3:=Blk.new (w.alloc (.cells (zD b1 A1 l1 c1 b2 A2 l2 c2) 175)) 82 #[.int .i64 0,.int .i64 0]
 rw[yZ] at B3
 have hbW:Below w.heap.size w ((w.alloc (.cells (zD b1 A1 l1 c1 b2 A2 l2 c2) 175)).alloc (.cells #[.int .i64 0,.int .i64 0] 82)):=((yB _ w).alloc (yA _) _).alloc (by simp) _
 have HV:=zh (hv.grow hbW)
 have HsW:Y0 (w.heap.size+2=((w.alloc (.cells (zD b1 A1 l1 c1 b2 A2 l2 c2) 175)).alloc (.cells #[.int .i64 0,.int .i64 0] 82)).heap.size):=by unfold Y0;simp
 have bw:=zh hbW
 clear hv hK hbW
 go_enter Tryz.func130,Tryz.ntmps130
 go_upto_region 1 with fail
 generalize (w.alloc (.cells (zD b1 A1 l1 c1 b2 A2 l2 c2) 175)).alloc (.cells #[.int .i64 0,.int .i64 0] 82)=W2 at *
 have bZ:=zh B1
 have bY:=zh B3
 obtain⟨q0,q1,q2,q3⟩:=bZ.o.c4
 clear B1 B3
 go_wp2_with fail
 refine (En _ x K _ HV.o HK.o).mono ?_
 rintro e w3 ⟨s1,v1,s2,v2,rfl,cO,h1,h2⟩
 have mz:=h1.1
 have jo:=h1.2
 have im:=h2.2
 rw[Int.natAbs_natCast] at im
 have HSg:=zh (qqJ s1 mz)
 have HFo:Y0 (ju x=(decide (x.num.natAbs≤1152921504606846976)&&decide (x.den≤1152921504606846976))):=rfl
 have HFv:Y0 (jO x=if ju x=true then .tuple #[.agg #[.int .i64 x.num,.int .i64 (x.den:Int)],.int .i64 0] else .tuple #[.agg #[.int .i64 0,.int .i64 0],.int .i64 5]):=rfl
 generalize x.num.natAbs=N at *
 generalize x.den=M at *
 obtain⟨A3,c3,rfl,hm3,hn3,-⟩:=DgTo.open_ jo
 obtain⟨A4,c4,rfl,hm4,hn4,-⟩:=DgTo.open_ im
 have jS:Y0 (RgFr w (w3.alloc (.cells (zD s1 A3 (aj N) c3 s2 A4 (aj M) c4) 175)) w3.heap.size (w3.alloc (.cells (zD s1 A3 (aj N) c3 s2 A4 (aj M) c4) 175)).heap.size s1 s2 (.slice A3 (aj N) c3) (.slice A4 (aj M) c4) N M):=by
  have iP:Below w3.heap.size w3 (w3.alloc (.cells (zD s1 A3 (aj N) c3 s2 A4 (aj M) c4) 175)):=(yB _ w3).alloc (yA _) _
  have bg:=bw.o.trans (cO.mono bw.o.size)
  have dK:=cO.size
  have hsw:=HsW.o
  exact⟨bg.trans (iP.mono bg.size),by omega,by simp,yA _,(bY.o.below cO bY.o.lt).alloc _,Blk.new _ _ _,DgTo.grow jo iP,DgTo.grow im iP⟩
 clear h1 h2 cO mz jo im q0 q1 q2 q3 bZ bY
 unfold maxLen at hn3 hn4
 go_upto_region 2 with fail
 obtain⟨g4,hg4⟩:∃ g4,g4=w3.heap.size:=⟨_,rfl⟩
 rw[← hg4] at jS ⊢
 generalize w3.alloc (.cells (zD s1 A3 (aj N) c3 s2 A4 (aj M) c4) 175)=W4 at *
 clear hg4
 go_wp2_with fail
 refine (CR 1152921504606846976 _ (by decide) (by decide)).mono ?_
 rintro e w5 ⟨s5,v5,rfl,bg,h5⟩
 have P6:=h5.2
 obtain⟨VN,qvg⟩:∃ VN:Nat,VN=(1152921504606846976:Int).natAbs:=⟨_,rfl⟩
 rw[← qvg] at P6
 have qzr:Y0 (VN=1152921504606846976):=qvg
 obtain⟨A5,c5,rfl,-⟩:=DgTo.open_ P6
 have iP:Below w5.heap.size w5 (w5.alloc (.cells #[.bool s5,.slice A5 (aj VN) c5] 173)):=(yB _ w5).alloc (yA _) _
 have pS:=zh (DgTo.grow P6 iP)
 have gD:=zh ((jS.o.grow bg).grow iP)
 have cN:=zh (Blk.new w5 173 #[.bool s5,.slice A5 (aj VN) c5])
 have qzq:Y0 (w5.heap.size<(w5.alloc (.cells #[.bool s5,.slice A5 (aj VN) c5] 173)).heap.size):=by unfold Y0;simp
 clear h5 bg P6 iP jS qvg
 go_upto_region 3 with fail
 obtain⟨g5,YZ⟩:∃ g5,g5=w5.heap.size:=⟨_,rfl⟩
 rw[← YZ] at cN qzq ⊢
 generalize w5.alloc (.cells #[.bool s5,.slice A5 (aj VN) c5] 173)=W6 at *
 clear YZ
 have q1:=gD.o.low.cell 1
 have q3:=gD.o.low.cell 3
 have p1:=cN.o.cell 1
 simp only[aP,aQ,aO] at q1 q3 p1
 go_wp2_with fail
 refine (lW _ _ N VN _ gD.o.n1 pS.o).mono ?_
 rintro e w7 ⟨rfl,na⟩
 have C6:=zh (gD.o.grow na)
 have HD7:=zh (DgTo.grow pS.o na)
 have CG:=zh (cN.o.below na qzq.o)
 have vqs:=zh (yK qzq.o na.size)
 clear na gD pS cN qzq q1 q3 p1
 by_cases hN:VN<N
 ·have HF:jO x = .tuple #[.agg #[.int .i64 0,.int .i64 0],.int .i64 5]:=by
   rw[HFv.o,HFo.o,if_neg]
   have:=qzr.o
   simp;omega
  rw[yD hN]
  have fF:=zh HF
  have r0:=C6.o.res.cell 0
  have r1:=C6.o.res.cell 1
  have f0:=C6.o.res.frozen 0
  have f1:=C6.o.res.frozen 1
  simp only[aP,aQ,aO] at r0 r1
  have lh:=zh C6.o.bel
  clear HF hN
  go_wp2_with fail
  have t0:=(((C6.o.res.set_ 0 (.int .i64 0)).set_ 1 (.int .i64 0))).cell 0
  have t1:=(((C6.o.res.set_ 0 (.int .i64 0)).set_ 1 (.int .i64 0))).cell 1
  simp only[aJ,aI,aH,aP,aQ,aO] at t0 t1
  refine YI (v:=.tuple #[.agg #[.int .i64 0,.int .i64 0],.int .i64 5]) (by simp[results,Tryz.results130,go_sem,t0,t1]) rfl ?_
  exact⟨by rw[fF.o],(lh.o.setCell (p:=⟨w.heap.size+1,0,none⟩) (YK _) _).setCell (p:=⟨w.heap.size+1,1,none⟩) (YK _) _⟩
 rw[yC hN]
 have q3:=C6.o.low.cell 3
 have p1:=CG.o.cell 1
 simp only[aP,aQ,aO] at q3 p1
 have HNl:Y0 (N≤1152921504606846976):=by have:=qzr.o;unfold Y0;omega
 clear hN
 go_wp2_with fail
 refine (lW _ _ M VN _ C6.o.n2 HD7.o).mono ?_
 rintro e w8 ⟨rfl,aM⟩
 have iV:=zh (C6.o.grow aM)
 clear aM C6 HD7 CG vqs q3 p1
 by_cases hN:VN<M
 ·have HF:jO x = .tuple #[.agg #[.int .i64 0,.int .i64 0],.int .i64 5]:=by
   rw[HFv.o,HFo.o,if_neg]
   have:=qzr.o
   simp;omega
  rw[yD hN]
  have fF:=zh HF
  have r0:=iV.o.res.cell 0
  have r1:=iV.o.res.cell 1
  have f0:=iV.o.res.frozen 0
  have f1:=iV.o.res.frozen 1
  simp only[aP,aQ,aO] at r0 r1
  have lh:=zh iV.o.bel
  clear HF hN
  go_wp2_with fail
  have t0:=(((iV.o.res.set_ 0 (.int .i64 0)).set_ 1 (.int .i64 0))).cell 0
  have t1:=(((iV.o.res.set_ 0 (.int .i64 0)).set_ 1 (.int .i64 0))).cell 1
  simp only[aJ,aI,aH,aP,aQ,aO] at t0 t1
  refine YI (v:=.tuple #[.agg #[.int .i64 0,.int .i64 0],.int .i64 5]) (by simp[results,Tryz.results130,go_sem,t0,t1]) rfl ?_
  exact⟨by rw[fF.o],(lh.o.setCell (p:=⟨w.heap.size+1,0,none⟩) (YK _) _).setCell (p:=⟨w.heap.size+1,1,none⟩) (YK _) _⟩
 rw[yC hN]
 have HMl:Y0 (M≤1152921504606846976):=by have:=qzr.o;unfold Y0;omega
 have HFy:Y0 (jO x = .tuple #[.agg #[.int .i64 x.num,.int .i64 (M:Int)],.int .i64 0]):=by
  have h1:=HNl.o
  have h2:=HMl.o
  unfold Y0
  rw[HFv.o,HFo.o,if_pos]
  simp;omega
 clear hN HFv HFo
 go_upto_region 6 with fail
 have Zv:Y0 (RgFr w (w8.alloc (.cells #[.int .i64 0,.int .i64 0] 82)) g4 w8.heap.size s1 s2 (.slice A3 (aj N) c3) (.slice A4 (aj M) c4) N M):=iV.o.below ((yB _ w8).alloc (yA _) _)
 have HAa:=zh (Blk.new w8 82 #[.int .i64 0,.int .i64 0])
 obtain⟨g6,hg6⟩:∃ g6,g6=w8.heap.size:=⟨_,rfl⟩
 rw[← hg6] at Zv HAa ⊢
 generalize w8.alloc (.cells #[.int .i64 0,.int .i64 0] 82)=W9 at *
 have HS:=zh Zv.o
 have HA:=zh HAa.o
 have y1:=HS.o.low.cell 1
 simp only[aP,aQ,aO] at y1
 clear Zv HAa iV hg6
 go_wp2_with fail
 go_loopw [7] (fun kx wr=>∃ m:Nat,m≤aj N∧kx = .int .i64 ((m:Int)-1)∧Y0 (RgFr w wr g4 g6 s1 s2 (.slice A3 (aj N) c3) (.slice A4 (aj M) c4) N M)∧Y0 (Blk wr g6 82 #[.int .i64 ((N / 16777216 ^ m:Nat):Int),.int .i64 0])) (fun kx _=>(intOf kx+1).toNat)
 case atStart=>exact⟨aj N,yA _,by go_num,HS,by rw[Nat.div_eq_of_lt (jD N)];exact HA⟩
 clear HS HA
 obtain⟨m,hm,rfl,HS,HA⟩:=hrel
 have a0:=HA.o.cell 0
 have f0:=HA.o.frozen 0
 have y1:=HS.o.low.cell 1
 have y0:=HS.o.low.cell 0
 simp only[aP,aQ,aO] at a0 y1 y0
 rcases m with _ | i
 ·rw[Nat.pow_zero,Nat.div_one] at HA
  have y9:=HS.o.low.cell 3
  simp only[aP,aQ,aO] at y9
  clear hm
  go_wp2_with fail
  go_loopw [8] (fun kx wr=>∃ m:Nat,m≤aj M∧kx = .int .i64 ((m:Int)-1)∧Y0 (RgFr w wr g4 g6 s1 s2 (.slice A3 (aj N) c3) (.slice A4 (aj M) c4) N M)∧Y0 (Blk wr g6 82 #[.int .i64 (N:Int),.int .i64 ((M / 16777216 ^ m:Nat):Int)])) (fun kx _=>(intOf kx+1).toNat)
  case atStart=>exact⟨aj M,yA _,by go_num,HS,by rw[Nat.div_eq_of_lt (jD M)];exact HA⟩
  clear HS HA
  obtain⟨m,hm,rfl,HS,HA⟩:=hrel
  have a1:=HA.o.cell 1
  have f1:=HA.o.frozen 1
  have y1:=HS.o.low.cell 3
  have y0:=HS.o.low.cell 0
  simp only[aP,aQ,aO] at a1 y1 y0
  rcases m with _ | i
  ·rw[Nat.pow_zero,Nat.div_one] at HA
   have HT:Y0 (∀ (q:Int) (Mw:World),x.num=q→RgFr w Mw g4 g6 s1 s2 (.slice A3 (aj N) c3) (.slice A4 (aj M) c4) N M→Blk Mw g6 82 #[.int .i64 q,.int .i64 (M:Int)]→x.num=q∧Blk Mw g6 82 #[.int .i64 q,.int .i64 (M:Int)]∧Blk Mw (w.heap.size+1) 82 #[.int .i64 0,.int .i64 0]∧Below w.heap.size w Mw):=fun q Mw h1 h2 h3=>⟨h1,h3,h2.res,h2.bel⟩
   have f0:=HA.o.frozen 0
   have a0:=HA.o.cell 0
   rw[Nat.pow_zero,Nat.div_one] at a1
   simp only[aP,aO] at a0
   cases s1
   case' true=>
    have HX:=zh (HSg.o.1 rfl)
    have hNl:=HNl.o
    have v5:IntKind.i64.wrap (0-(N:Int)) = -(N:Int):=(yF _ (by omega)).trans (by omega)
    have v6:IntKind.i64.wrap (-(N:Int)) = -(N:Int):=yF _ (by omega)
    have aS:=zh (HS.o.set HA.o 0 (.int .i64 (-(N:Int))))
    have HE:=zh (HT.o (-(N:Int)) _ HX.o aS.o.1 aS.o.2)
    clear hNl aS HT HX HA HS
    go_upto_region 16 with fail
    generalize wr.setCell ⟨g6,0,none⟩ (.int .i64 (-(N:Int)))=Mw at *
    generalize -(N:Int)=q at *
   case' false=>
    have HX:=zh (HSg.o.2 rfl)
    have HE:=zh (HT.o (N:Int) _ HX.o HS.o HA.o)
    clear HT HX HA HS
    go_upto_region 16 with fail
    generalize wr=Mw at *
    generalize hq:(N:Int)=q at *
   all_goals
    obtain⟨eq,hA,hR,hB⟩:=HE.o
    have eq:=zh eq
    have hB:=zh hB
    have z0:=hA.cell 0
    have z1:=hA.cell 1
    have r0:=hR.cell 0
    have r1:=hR.cell 1
    have k0:=hR.frozen 0
    have k1:=hR.frozen 1
    simp only[aP,aQ,aO] at z0 z1 r0 r1
    have HR:=zh hR
    clear hA hR HE f0 f1 a0 a1 y0 y1
    go_wp2_with fail
    have t0:=((HR.o.set_ 0 (.int .i64 q)).set_ 1 (.int .i64 (M:Int))).cell 0
    have t1:=((HR.o.set_ 0 (.int .i64 q)).set_ 1 (.int .i64 (M:Int))).cell 1
    simp only[aJ,aI,aH,aP,aQ,aO] at t0 t1
    refine YI (v:=.tuple #[.agg #[.int .i64 q,.int .i64 (M:Int)],.int .i64 0]) (by simp[results,Tryz.results130,go_sem,t0,t1]) rfl ?_
    exact⟨by rw[HFy.o,eq.o],(hB.o.setCell (p:=⟨w.heap.size+1,0,none⟩) (YK _) _).setCell (p:=⟨w.heap.size+1,1,none⟩) (YK _) _⟩
  obtain⟨_,_,e9,-,-,ah⟩:=DgTo.open_ HS.o.n2
  injection e9 with e9 _ e10
  subst e9 e10
  obtain⟨bb,oo,e8,rZ,hx8⟩:=ah i (by omega)
  subst e8
  have y2:=hx8 i (by omega)
  have e0:((i+1:Nat):Int)-1=(i:Int):=by omega
  rw[e0]
  have HE:=zh (NL M i)
  have BU:Y0 (M / 16777216 ^ i≤1152921504606846976):=yH (Nat.div_le_self _ _) HMl.o
  have pK:=BU.o
  rw[← HE.o] at pK
  have hg:=dO M i
  generalize hz:M / 16777216 ^ (i+1)=z at *
  generalize ay M i=d at *
  have HZ:Y0 (∀ u:Int,u=16777216*(z:Int)+(d:Int)→u=((M / 16777216 ^ i:Nat):Int)):=fun u hu=>by rw[hu,← HE.o];omega
  have v1:IntKind.i64.wrap (16777216*(z:Int))=16777216*(z:Int):=yF _ (by omega)
  have v2:IntKind.i64.wrap (16777216*(z:Int)+(d:Int))=16777216*(z:Int)+(d:Int):=yF _ (by omega)
  have v3:IntKind.i64.wrap ((i:Int)-1)=(i:Int)-1:=yF _ (by omega)
  have i1:(i:Int)<(aj M:Int):=by omega
  have YV:i<aj M:=by omega
  clear ah hx8 hz pK hm e0
  have ua:=YL a1
  have uy:=YL y1
  have ud:=YL y2
  clear y0 y2 a1 y1 f1
  go_upto_region 13 with fail
  refine ag 11 (fun _=>none) (by kernel_rfl) (by kernel_rfl) ?_
  simp only[aU,aT,aW,aX]
  refine ae 11 (by kernel_rfl) (by rfl) (by decide) ?_
  simp only[aU,aT,aW,aX]
  repeat (go_big_quiet_step (fail))
  refine YH ?_
  refine Zc ?_
  intro w9 ja hF
  have ny:=zh (HS.o.below (ja.mono HS.o.Bw))
  have HA9:=zh (HA.o.below ja HA.o.lt)
  have a9:=HA9.o.cell 1
  have f9:=HA9.o.frozen 1
  simp only[aP,aQ,aO] at a9
  have aS:=zh (ny.o.set HA9.o 1 (.int .i64 (16777216*(z:Int)+(d:Int))))
  clear hF ja ua uy ud HS HA
  go_wp2_with fail
  go_roundw
  case rel=>exact⟨i,by omega,by go_num,aS.o.1,by rw[← HZ.o _ rfl];exact aS.o.2⟩
  simp[intOf] <;> omega
 obtain⟨_,_,e9,-,-,ah⟩:=DgTo.open_ HS.o.n1
 injection e9 with e9 _ e10
 subst e9 e10
 obtain⟨bb,oo,e8,rZ,hx8⟩:=ah i (by omega)
 subst e8
 have y2:=hx8 i (by omega)
 have e0:((i+1:Nat):Int)-1=(i:Int):=by omega
 rw[e0]
 have HE:=zh (NL N i)
 have BU:Y0 (N / 16777216 ^ i≤1152921504606846976):=yH (Nat.div_le_self _ _) HNl.o
 have pK:=BU.o
 rw[← HE.o] at pK
 have hg:=dO N i
 generalize hz:N / 16777216 ^ (i+1)=z at *
 generalize ay N i=d at *
 have HZ:Y0 (∀ u:Int,u=16777216*(z:Int)+(d:Int)→u=((N / 16777216 ^ i:Nat):Int)):=fun u hu=>by rw[hu,← HE.o];omega
 have v1:IntKind.i64.wrap (16777216*(z:Int))=16777216*(z:Int):=yF _ (by omega)
 have v2:IntKind.i64.wrap (16777216*(z:Int)+(d:Int))=16777216*(z:Int)+(d:Int):=yF _ (by omega)
 have v3:IntKind.i64.wrap ((i:Int)-1)=(i:Int)-1:=yF _ (by omega)
 have i1:(i:Int)<(aj N:Int):=by omega
 have YV:i<aj N:=by omega
 clear ah hx8 hz pK hm e0
 have ua:=YL a0
 have uy:=YL y1
 have ud:=YL y2
 clear y0 y2 a0 y1 f0
 go_upto_region 9 with fail
 refine ag 11 (fun _=>none) (by kernel_rfl) (by kernel_rfl) ?_
 simp only[aU,aT,aW,aX]
 refine ae 11 (by kernel_rfl) (by rfl) (by decide) ?_
 simp only[aU,aT,aW,aX]
 repeat (go_big_quiet_step (fail))
 refine YH ?_
 refine Zc ?_
 intro w9 ja hF
 have ny:=zh (HS.o.below (ja.mono HS.o.Bw))
 have HA9:=zh (HA.o.below ja HA.o.lt)
 have a9:=HA9.o.cell 0
 have f9:=HA9.o.frozen 0
 simp only[aP,aO] at a9
 have aS:=zh (ny.o.set HA9.o 0 (.int .i64 (16777216*(z:Int)+(d:Int))))
 clear hF ja ua uy ud HS HA
 go_wp2_with fail
 go_roundw
 case rel=>exact⟨i,by omega,by go_num,aS.o.1,by rw[← HZ.o _ rfl];exact aS.o.2⟩
 simp[intOf] <;> omega
theorem qT {n:Nat} (h:n≤1152921504606846976):aj n≤3:=jE (by show n<16777216 ^ 3;omega)
theorem I3 {l:List Int} (h:∀ x∈l,x.natAbs ≤ 1152921504606846976):∀ k,k ≤ l.length→aj (dD (l.take k)).natAbs ≤ 3 * k + 1
 | 0,_=>by
  show aj 1≤1
  rw[BD]
  exact yA _
 | k+1,hk=>by
  have ih:=I3 h k (by omega)
  rw[aC l k (by omega),mL,Int.natAbs_mul]
  have h1:=iS ih (qT (h l[k] (yV (by omega))))
  omega
def BgBox (w:World) (D:Nat) (z:Int):Prop:=∃ b A l c,Blk w D 173 #[.bool b,.slice A l c]∧BigAt w w.heap.size b (.slice A l c) z
theorem BgBox.grow {w w':World} {D:Nat} {z:Int} (h:BgBox w D z) (hb:Below w.heap.size w w'):BgBox w' D z:=by
 obtain⟨b,A,l,c,h1,h2⟩:=h
 exact⟨b,A,l,c,h1.below hb h1.lt,h2.grow hb⟩
theorem BgBox.put {w:World} {D:Nat} {z z0:Int} (h0:BgBox w D z0) {b:Bool} {A:Option Addr} {l c:Nat} (h:BigAt w w.heap.size b (.slice A l c) z):BgBox ((w.setCell ⟨D,0,none⟩ (.bool b)).setCell ⟨D,1,none⟩ (.slice A l c)) D z:=by
 obtain⟨b0,A0,l0,c0,h1,-⟩:=h0
 have z0:=h1.cell 0
 have z1:=(h1.set_ 0 (.bool b)).cell 1
 simp only[aP,aO] at z0
 have g1:=DgTo.set h.2 z0 (fun z=>by simp) (.bool b)
 have g2:=DgTo.set g1 (u:=.slice A0 l0 c0) z1 (fun z=>by simp) (.slice A l c)
 exact⟨b,A,l,c,(h1.set_ 0 _).set_ 1 _,h.1,DgTo.mono g2 (by simp[World.setCell])⟩
theorem eE (vj:Int) (v:Value) (l:List Int) (w:World) (hv:bO w w.heap.size v l) (hl:l.length≤8) (hx:∀ x∈l,x.natAbs≤1152921504606846976) (jr:0<vj) (ao:vj≤1152921504606846976) :
  Calls Tryz.prog 134 #[v,.int .i64 vj] w (fa w (Zu vj l) 30):=by
 obtain⟨A,c,rfl,gC,dr,ah⟩:=hv.open_
 unfold maxLen at dr
 have HX:=zh hx
 have HC:=zh ah
 have Z2:=zh jr
 have bZ:=zh ao
 have HR:=zh (Blk.new w 175 (zD false none 0 0 false none 0 0))
 have HB:=zh ((yB _ w).alloc (yA _) (.cells (zD false none 0 0 false none 0 0) 175))
 clear ah hv hx jr ao
 go_enter Tryz.func134,Tryz.ntmps134
 go_wp2_with fail
 generalize w.alloc (.cells (zD false none 0 0 false none 0 0) 175)=W0 at *
 refine (CR 1 W0 (by decide) (by decide)).mono ?_
 rintro e w1 ⟨n1,v1,rfl,ao,uY⟩
 obtain⟨A1,c1,rfl,-⟩:=DgTo.open_ uY.2
 generalize aj (1:Int).natAbs=l1 at *
 have MA:=zh ((HR.o.below ao HR.o.lt).alloc (.cells #[.bool n1,.slice A1 l1 c1] 173))
 have Mc:=HB.o.trans (ao.mono HB.o.size)
 have Y2:=zh (Mc.alloc Mc.size (.cells #[.bool n1,.slice A1 l1 c1] 173))
 have Fy:Y0 (BgBox (w1.alloc (.cells #[.bool n1,.slice A1 l1 c1] 173)) w1.heap.size (dD (l.take 0))):=⟨n1,A1,l1,c1,Blk.new _ _ _,uY.grow ((yB _ _).alloc (yA _) _)⟩
 have QO:Y0 (w.heap.size<w1.heap.size):=yK HR.o.lt ao.size
 clear HR HB ao uY Mc
 go_wp2_with fail
 generalize df:w1.heap.size=D5 at *
 clear df
 go_loopw [6] (fun ix wr=>∃ k:Nat,k≤l.length∧ix = .int .i64 k∧Y0 (BgBox wr D5 (dD (l.take k)))∧Y0 (Blk wr w.heap.size 175 (zD false none 0 0 false none 0 0))∧Y0 (Below w.heap.size w wr)) (fun ix _=>l.length-(intOf ix).toNat)
 case atStart=>exact⟨0,yI _,rfl,Fy,MA,Y2⟩
 clear Fy MA Y2
 obtain⟨k,hk,rfl,HN,HR,HB⟩:=hrel
 have k0:(0:Int)≤(k:Int):=yE _
 obtain⟨nb,nA,nl,nc,hNb,hNn⟩:=HN.o
 obtain⟨q0,q1⟩:=hNb.c2
 have HNb:=zh hNb
 have Yq:=zh hNn
 have HPk:=zh (I3 HX.o k hk)
 clear hNb hNn
 by_cases aB:k<l.length
 ·have k1:(k:Int)<(l.length:Int):=by omega
  obtain⟨b2,o2,rfl,aw,dW⟩:=HC.o k aB
  have hx:=(HB.o.cell (p:=⟨b2,o2+k,none⟩) aw).trans (dW k aB)
  have HXk:=zh (HX.o l[k] (yV aB))
  have HP:Y0 (dD (l.take (k+1))=dD (l.take k)*l[k]):=by unfold Y0;rw[aC l k aB,mL]
  clear dW aw
  generalize l[k]=x at *
  go_upto_region 5 with fail
  have u0:=YL q0
  have u1:=YL q1
  have ux:=YL hx
  clear hx q0 q1
  refine ag 7 (fun i=>if i=5 then some (Kd x) else if i=6 then some (Kd (dD (l.take k)*x)) else none) (by kernel_rfl) (by kernel_rfl) ?_
  simp only[aU,aT,aW,aX]
  refine ae 5 (by kernel_rfl) (by rfl) (by decide) ?_
  simp only[aU,aT,aW,aX]
  repeat (go_big_quiet_step (fail))
  refine YH ?_
  refine af rfl rfl (fun w1 ao _=>⟨170,#[.int .i64 x],by go_simp,ea (CR x w1 (by have:=HXk.o;omega) (by have:=HXk.o;omega))⟩) ?_
  rintro _ ⟨rb,rA,rc,rfl⟩
  simp only[Act.put,aJ,aI,aH]
  refine af rfl rfl ?_ ?_
  ·intro w1 ao YX
   obtain⟨_,_,e17,h17⟩:∃ s v,Value.agg #[.bool rb,.slice rA (aj x.natAbs) rc] = .agg #[.bool s,v]∧BigAt w1 w1.heap.size s v x:=YX 19 (by decide)
   cases e17
   exact⟨175,#[.agg #[.bool nb,.slice nA nl nc],.agg #[.bool rb,.slice rA (aj x.natAbs) rc]],by go_simp,ea (ic _ _ _ _ (dD (l.take k)) x w1 (Yq.o.grow ao) h17 (by have:=HPk.o;omega) (by have:=qT HXk.o;omega))⟩
  rintro _ ⟨sb,sA,sc,rfl⟩
  simp only[Act.put,aJ,aI,aH]
  refine Zc ?_
  intro w5 bg hF
  obtain⟨_,_,e18,h18⟩:∃ s v,Value.agg #[.bool sb,.slice sA (aj (dD (l.take k)*x).natAbs) sc] = .agg #[.bool s,v]∧BigAt w5 w5.heap.size s v (dD (l.take k)*x):=hF 20
  cases e18
  have cN:=zh (HB.o.trans (bg.mono HB.o.size))
  have m8:=zh (HR.o.below bg HR.o.lt)
  have By:=HNb.o.below bg HNb.o.lt
  have q0:=By.cell 0
  have q1:=By.cell 1
  have f0:=By.frozen 0
  have f1:=By.frozen 1
  simp only[aP,aQ,aO] at q0 q1
  generalize hsl:aj (dD (l.take k)*x).natAbs=sl at *
  clear hsl
  rw[← HP.o] at h18
  have H18:=zh h18
  have QS:=zh (HN.o.grow bg)
  clear hF u0 u1 ux h18 bg By HP HN HR HB HNb Yq
  go_wp2_with fail
  have HN6:=zh (QS.o.put H18.o)
  have vm:=zh ((m8.o.far (p:=⟨D5,0,none⟩) (Nat.ne_of_lt QO.o) (.bool sb)).far (p:=⟨D5,1,none⟩) (Nat.ne_of_lt QO.o) (.slice sA sl sc))
  have lK:=zh ((cN.o.setCell (p:=⟨D5,0,none⟩) (YJ QO.o) (.bool sb)).setCell (p:=⟨D5,1,none⟩) (YJ QO.o) (.slice sA sl sc))
  clear q0 q1 f0 f1 H18 QS m8 cN
  go_roundw
  case rel=>exact⟨k+1,by omega,by go_num,HN6,vm,lK⟩
  simp[intOf];omega
 obtain rfl:k=l.length:=by omega
 rw[yT] at Yq HPk
 go_upto_region 6 with fail
 have u0:=YL q0
 have u1:=YL q1
 clear q0 q1
 refine ag 4 (fun i=>if i=2 then some (Kd vj) else none) (by kernel_rfl) (by kernel_rfl) ?_
 simp only[aU,aT,aW,aX]
 refine ae 2 (by kernel_rfl) (by rfl) (by decide) ?_
 simp only[aU,aT,aW,aX]
 repeat (go_big_quiet_step (fail))
 refine YH ?_
 refine af rfl rfl (fun w1 ao _=>⟨170,#[.int .i64 vj],by go_simp,ea (CR vj w1 (by have:=Z2.o;omega) bZ.o)⟩) ?_
 rintro _ ⟨rb,rA,rc,rfl⟩
 simp only[Act.put,aJ,aI,aH]
 refine ae 1 (by kernel_rfl) (by rfl) (by decide) ?_
 simp only[aU,aT,aW,aX]
 repeat (go_big_quiet_step (fail))
 refine YH ?_
 refine Zc ?_
 intro w5 bg hF
 obtain⟨_,_,e22,h22⟩:∃ s v,Value.agg #[.bool rb,.slice rA (aj vj.natAbs) rc] = .agg #[.bool s,v]∧BigAt w5 w5.heap.size s v vj:=hF 23
 cases e22
 have HL:Y0 (ExqAt w5 w5.heap.size (.agg (zD nb nA nl nc rb rA (aj vj.natAbs) rc)) (Zu vj l) 30):=⟨_,_,_,_,dD l,vj,rfl,Yq.o.grow bg,h22,Z2.o,by have:=HPk.o;omega,by have:=bZ.o;have:=Z2.o;have:=qT (n:=vj.natAbs) (by omega);omega,rfl⟩
 have dP:=zh (HB.o.trans (bg.mono HB.o.size))
 have bj:=zh (HR.o.below bg HR.o.lt)
 have dQ:=zh (jC (w:=w) (yA _) dP.o bj.o HL.o)
 have q0:=bj.o.cell 0
 have q1:=bj.o.cell 1
 have q2:=bj.o.cell 2
 have q3:=bj.o.cell 3
 have f0:=bj.o.frozen 0
 have f1:=bj.o.frozen 1
 have f2:=bj.o.frozen 2
 have f3:=bj.o.frozen 3
 simp only[aP,aQ,aO] at q0 q1 q2 q3
 clear hF u0 u1 h22 bg HN HR HB HNb Yq
 go_wp2_with fail
 refine YI (v:=.agg (zD nb nA nl nc rb rA (aj vj.natAbs) rc)) (by simp[results,Tryz.results134,go_sem,q0,q1,q2,q3]) rfl ?_
 exact⟨_,rfl,dQ.o.1,dQ.o.2⟩
theorem wh (w:World):Calls Tryz.prog 132 #[] w (fa w 0 30):=by
 have HR:=zh (Blk.new w 175 (zD false none 0 0 false none 0 0))
 have HB:=zh ((yB _ w).alloc (yA _) (.cells (zD false none 0 0 false none 0 0) 175))
 go_enter Tryz.func132,Tryz.ntmps132
 go_upto_region 1 with fail
 generalize w.alloc (.cells (zD false none 0 0 false none 0 0) 175)=W0 at *
 have HI:Y0 (bO (W0.alloc (.cells #[.int .i64 0] 3)) (W0.alloc (.cells #[.int .i64 0] 3)).heap.size (.slice (some ⟨W0.heap.size,0,none⟩) 1 1) [0]):=RowAt.of_own (Aw W0 3 (.int .i64 0))
 have qp:=zh (HB.o.alloc HB.o.size (.cells #[.int .i64 0] 3))
 have C8:=zh (HR.o.alloc (.cells #[.int .i64 0] 3))
 go_wp2_with fail
 refine (eE 1 _ [0] _ HI.o (by decide) (by decide) (by decide) (by decide)).mono ?_
 rintro e w5 ⟨v5,rfl,bg,h5⟩
 obtain⟨s1,A1,l1,c1,s2,A2,l2,c2,_,_,rfl,-⟩:=bR h5
 have HL:=zh h5
 have dP:=zh (qp.o.trans (bg.mono qp.o.size))
 have bj:=zh (C8.o.below bg C8.o.lt)
 have dQ:=zh (jC (w:=w) (yA _) dP.o bj.o HL.o)
 have q0:=bj.o.cell 0
 have q1:=bj.o.cell 1
 have q2:=bj.o.cell 2
 have q3:=bj.o.cell 3
 have f0:=bj.o.frozen 0
 have f1:=bj.o.frozen 1
 have f2:=bj.o.frozen 2
 have f3:=bj.o.frozen 3
 simp only[aP,aQ,aO] at q0 q1 q2 q3
 clear h5 bg
 go_wp2_with fail
 refine YI (v:=.agg (zD s1 A1 l1 c1 s2 A2 l2 c2)) (by simp[results,Tryz.results132,go_sem,q0,q1,q2,q3]) rfl ?_
 have h0:Zu 1 [0]=0:=by decide
 have h1:=dQ.o.2
 rw[h0] at h1
 exact⟨_,rfl,dQ.o.1,h1⟩
def jZ (b:BeamT) (a:Int) (k:Nat):Rat:=aD b (se a) (Zu 2000 [b.even,a,a]) k
def dF (b:BeamT) (a:Int):Rat:=jZ b a b.loads.length
def EqBox (w:World) (D:Nat) (q:Rat) (K:Nat):Prop:=∃ b1 A1 l1 c1 b2 A2 l2 c2,Blk w D 175 #[.bool b1,.slice A1 l1 c1,.bool b2,.slice A2 l2 c2]∧ExqAt w w.heap.size (.agg #[.bool b1,.slice A1 l1 c1,.bool b2,.slice A2 l2 c2]) q K
theorem EqBox.grow {w w':World} {D:Nat} {q:Rat} {K:Nat} (h:EqBox w D q K) (hb:Below w.heap.size w w'):EqBox w' D q K:=by
 obtain⟨b1,A1,l1,c1,b2,A2,l2,c2,h1,h2⟩:=h
 exact⟨b1,A1,l1,c1,b2,A2,l2,c2,h1.below hb h1.lt,h2.grow hb⟩
theorem EqBox.new {w:World} {q:Rat} {K:Nat} {b1:Bool} {A1:Option Addr} {l1 c1:Nat} {b2:Bool} {A2:Option Addr} {l2 c2:Nat} (h:ExqAt w w.heap.size (.agg (zD b1 A1 l1 c1 b2 A2 l2 c2)) q K):EqBox (w.alloc (.cells (zD b1 A1 l1 c1 b2 A2 l2 c2) 175)) w.heap.size q K :=
 ⟨b1,A1,l1,c1,b2,A2,l2,c2,Blk.new _ _ _,h.grow ((yB _ _).alloc (yA _) _)⟩
theorem EqBox.put {w:World} {D:Nat} {q q':Rat} {K K':Nat} (h0:EqBox w D q K) {b1:Bool} {A1:Option Addr} {l1 c1:Nat} {b2:Bool} {A2:Option Addr} {l2 c2:Nat} (hE:ExqAt w w.heap.size (.agg (zD b1 A1 l1 c1 b2 A2 l2 c2)) q' K') :
  EqBox ((((w.setCell ⟨D,0,none⟩ (.bool b1)).setCell ⟨D,1,none⟩ (.slice A1 l1 c1)).setCell ⟨D,2,none⟩ (.bool b2)).setCell ⟨D,3,none⟩ (.slice A2 l2 c2)) D q' K':=by
 obtain⟨x1,X1,y1,z1,x2,X2,y2,z2,hD,-⟩:=h0
 have h1:=hD.set_ 0 (.bool b1)
 have h2:=h1.set_ 1 (.slice A1 l1 c1)
 have h3:=h2.set_ 2 (.bool b2)
 have t0:=hD.cell 0
 have t1:=h1.cell 1
 have t2:=h2.cell 2
 have t3:=h3.cell 3
 simp only[aP,aO] at t0
 have oI:∀ {v:Value} {x k:Nat},DgTo w w.heap.size v x k→DgTo ((((w.setCell ⟨D,0,none⟩ (.bool b1)).setCell ⟨D,1,none⟩ (.slice A1 l1 c1)).setCell ⟨D,2,none⟩ (.bool b2)).setCell ⟨D,3,none⟩ (.slice A2 l2 c2)) ((((w.setCell ⟨D,0,none⟩ (.bool b1)).setCell ⟨D,1,none⟩ (.slice A1 l1 c1)).setCell ⟨D,2,none⟩ (.bool b2)).setCell ⟨D,3,none⟩ (.slice A2 l2 c2)).heap.size v x k:=fun h=>by
  have g1:=DgTo.set h t0 (fun z=>by simp) (.bool b1)
  have g2:=DgTo.set g1 (u:=.slice X1 y1 z1) t1 (fun z=>by simp) (.slice A1 l1 c1)
  have g3:=DgTo.set g2 (u:=.bool x2) t2 (fun z=>by simp) (.bool b2)
  have g4:=DgTo.set g3 (u:=.slice X2 y2 z2) t3 (fun z=>by simp) (.slice A2 l2 c2)
  exact DgTo.mono g4 (by simp[World.setCell])
 obtain⟨_,_,_,_,N,E,e,h4,h5,h6⟩:=hE
 cases e
 exact⟨_,_,_,_,_,_,_,_,h3.set_ 3 (.slice A2 l2 c2),_,_,_,_,N,E,rfl,⟨h4.1,oI h4.2⟩,⟨h5.1,oI h5.2⟩,h6⟩
structure SumQ (w wr:World) (bx:Array Value) (Ds:Nat) (q:Rat) (K:Nat):Prop where
 bm:Blk wr w.heap.size 122 bx
 res:Blk wr (w.heap.size+1) 175 (zD false none 0 0 false none 0 0)
 sum:EqBox wr Ds q K
 bel:Below w.heap.size w wr
 far:w.heap.size+1<Ds
theorem SumQ.grow {w wr w':World} {bx:Array Value} {Ds:Nat} {q:Rat} {K:Nat} (h:SumQ w wr bx Ds q K) (hb:Below wr.heap.size wr w'):SumQ w w' bx Ds q K :=
 ⟨h.bm.below hb h.bm.lt,h.res.below hb h.res.lt,h.sum.grow hb,h.bel.trans (hb.mono h.bel.size),h.far⟩
theorem SumQ.more {w wr:World} {bx:Array Value} {Ds:Nat} {q:Rat} {K K':Nat} (h:SumQ w wr bx Ds q K) (hK:K≤K'):SumQ w wr bx Ds q K':=by
 obtain⟨x1,X1,y1,z1,x2,X2,y2,z2,hD,h1⟩:=h.sum
 exact⟨h.bm,h.res,⟨x1,X1,y1,z1,x2,X2,y2,z2,hD,h1.more hK⟩,h.bel,h.far⟩
theorem SumQ.put {w wr:World} {bx:Array Value} {Ds:Nat} {q q':Rat} {K K':Nat} (h:SumQ w wr bx Ds q K) {b1:Bool} {A1:Option Addr} {l1 c1:Nat} {b2:Bool} {A2:Option Addr} {l2 c2:Nat} (hE:ExqAt wr wr.heap.size (.agg (zD b1 A1 l1 c1 b2 A2 l2 c2)) q' K') :
  SumQ w ((((wr.setCell ⟨Ds,0,none⟩ (.bool b1)).setCell ⟨Ds,1,none⟩ (.slice A1 l1 c1)).setCell ⟨Ds,2,none⟩ (.bool b2)).setCell ⟨Ds,3,none⟩ (.slice A2 l2 c2)) bx Ds q' K':=by
 have hf:=h.far
 exact⟨h.bm.far4 (by omega) _ _ _ _,h.res.far4 (by omega) _ _ _ _,h.sum.put hE,bC h.bel (by omega) _ _ _ _,h.far⟩
theorem SumQ.start {w w1:World} {bx:Array Value} {q:Rat} {K:Nat} (hb:Below (w.heap.size + 2) ((w.alloc (.cells bx 122)).alloc (.cells (zD false none 0 0 false none 0 0) 175)) w1)
  {b1:Bool} {A1:Option Addr} {l1 c1:Nat} {b2:Bool} {A2:Option Addr} {l2 c2:Nat} (hE:ExqAt w1 w1.heap.size (.agg (zD b1 A1 l1 c1 b2 A2 l2 c2)) q K) :
  SumQ w (w1.alloc (.cells (zD b1 A1 l1 c1 b2 A2 l2 c2) 175)) bx w1.heap.size q K:=by
 have h1:Blk ((w.alloc (.cells bx 122)).alloc (.cells (zD false none 0 0 false none 0 0) 175)) (w.heap.size+1) 175 (zD false none 0 0 false none 0 0):=by
  have:=Blk.new (w.alloc (.cells bx 122)) 175 (zD false none 0 0 false none 0 0)
  simpa using this
 have h2:=(Blk.new w 122 bx).alloc (.cells (zD false none 0 0 false none 0 0) 175)
 have h3:Below w.heap.size w ((w.alloc (.cells bx 122)).alloc (.cells (zD false none 0 0 false none 0 0) 175)):=((yB _ _).alloc (yA _) _).alloc (by simp) _
 have h4:Below w.heap.size w w1:=h3.trans (hb.mono (by omega))
 have dK:w.heap.size+2≤w1.heap.size:=by have:=hb.size;simpa using this
 exact⟨(h2.below hb (by omega)).alloc _,(h1.below hb (by omega)).alloc _,EqBox.new hE,h4.alloc h4.size _,by omega⟩
theorem tZ {x y:Int} (h1:x.natAbs≤1152921504606846976) (h2:y.natAbs≤1152921504606846976):∀ z∈[x,y],z.natAbs≤1152921504606846976:=fun z hz=>by
 simp at hz
 rcases hz with rfl | rfl
 ·exact h1
 exact h2
theorem K3 (v:Value) (b:BeamT) (a:Int) (w:World) (hv:BeamAt w w.heap.size v b) (hb:BeamOk b) (LU:0≤a) (ha1:a≤b.len):Calls Tryz.prog 168 #[v,.int .i64 a] w (fa w (dF b a) 1270):=by
 obtain⟨As,cs,Al,cl,rfl,hS,hL⟩:=hv
 obtain⟨_,_,e,_,dW,oN⟩:=hL.open_
 injection e with e1 _ e2
 subst e1 e2
 have h2:=hb.loads1
 have h3:=hb.even
 have h5:=hb.len
 unfold maxLen at dW
 have vn:=zh oN
 have Hb:=zh hb
 obtain⟨Zp,h32⟩:=h3
 obtain⟨h51,h52⟩:=h5
 clear oN hb hS hL
 go_enter Tryz.func168,Tryz.ntmps168
 go_wp2_with fail
 have hI:=iM ((w.alloc (.cells (zC b As cs Al cl) 122)).alloc (.cells (zD false none 0 0 false none 0 0) 175)) 3 [b.even,a,a] (yU rfl)
 have dK:((w.alloc (.cells (zC b As cs Al cl) 122)).alloc (.cells (zD false none 0 0 false none 0 0) 175)).heap.size=w.heap.size+1+1:=by simp
 rw[dK] at hI
 refine (eE 2000 _ [b.even,a,a] _ hI (yU rfl) (fun x hx=>?_) (by decide) (by decide)).mono ?_
 ·simp at hx
  omega
 rintro e w1 ⟨v1,rfl,mh,li⟩
 obtain⟨m1,B1,k1,d1,m2,B2,k2,d2,_,_,rfl,-⟩:=bR li
 have rZ:=((yB _ ((w.alloc (.cells (zC b As cs Al cl) 122)).alloc (.cells (zD false none 0 0 false none 0 0) 175))).alloc (yA _) (.cells #[.int .i64 b.even,.int .i64 a,.int .i64 a] 3)).trans (mh.mono (by simp))
 rw[dK] at rZ
 have aS:=zh (SumQ.start rZ li)
 have HH:Y0 (jZ b a 0=Zu 2000 [b.even,a,a]):=rfl
 clear hI dK mh li rZ
 go_wp2_with fail
 generalize w1.heap.size=Ds at *
 rw[← HH.o] at aS
 clear HH
 go_loopw [6] (fun ix wr=>∃ k:Nat,k≤b.loads.length∧ix = .int .i64 k∧Y0 (SumQ w wr (zC b As cs Al cl) Ds (jZ b a k) (30+31*k))) (fun ix _=>b.loads.length-(intOf ix).toNat)
 case atStart=>exact⟨0,yI _,rfl,aS⟩
 clear aS
 obtain⟨k,hk,rfl,aS⟩:=hrel
 have k0:(0:Int)≤(k:Int):=yE _
 have c3:=aS.o.bm.cell 3
 obtain⟨gM,gQ,gH,gK,gL,gP,gG,gJ,hB,hE⟩:=aS.o.sum
 have y0:=hB.cell 0
 have y1:=hB.cell 1
 have y2:=hB.cell 2
 have y3:=hB.cell 3
 simp only[aP,aQ,aO] at y0 y1 y2 y3 c3
 have HE:=zh hE
 clear hB hE
 by_cases aB:k<b.loads.length
 ·have k1:(k:Int)<(b.loads.length:Int):=by omega
  obtain⟨b2,o2,rfl,aw,dW⟩:=vn.o k aB
  obtain⟨cW,cT⟩:=dW k aB
  have cW:=(aS.o.bel.cell (p:=⟨b2,o2+k*2,none⟩) aw).trans cW
  have cT:=(aS.o.bel.cell (p:=⟨b2,o2+k*2+1,none⟩) aw).trans cT
  obtain⟨p1,p2,p3,p4⟩:=Hb.o.loads _ (yV aB)
  have lg:=zh (Zl (b:=b) (f:=se a) (s:=Zu 2000 [b.even,a,a]) aB)
  clear dW
  generalize b.loads[k]=x at *
  obtain⟨pos,wt⟩:=x
  simp only at cW cT p1 p2 p3 p4
  by_cases qN:pos<a
  ·have hd:decide (pos<a)=true:=yD qN
   have HT:Y0 (jZ b a (k+1)=jZ b a k+Zu 1 [wt,a-pos]):=by
    unfold Y0 jZ
    rw[lg.o]
    unfold se
    simp only[if_pos qN]
   have mz:(a-pos).natAbs≤1152921504606846976:=by omega
   have jU:wt.natAbs≤1152921504606846976:=by omega
   have v1:IntKind.i64.wrap (a-pos)=a-pos:=yF _ (by omega)
   clear lg
   go_upto_region 6 with fail
   have u0:=YL y0
   have u1:=YL y1
   have u2:=YL y2
   have u3:=YL y3
   have u4:=YL cW
   have u5:=YL cT
   have u6:=YL c3
   clear y0 y1 y2 y3 cW cT c3
   refine ag 18 (fun i=>if i=15 then some (gI [wt,a-pos]) else if i=16 then some (jb (Zu 1 [wt,a-pos]) 30) else if i=17 then some (jb (jZ b a k+Zu 1 [wt,a-pos]) (30+31*(k+1))) else none) (by kernel_rfl) (by kernel_rfl) ?_
   simp only[aU,aT,aW,aX]
   refine ae 15 (by kernel_rfl) (by rfl) (by decide) ?_
   simp only[aU,aT,aW,aX]
   repeat (go_big_quiet_step (fail))
   refine YH ?_
   refine br rfl rfl (fun w1 ao _=>en (T:=3) (l:=[wt,a-pos]) (yU rfl) (by go_simp)) ?_
   rintro _ ⟨Xd,rfl⟩
   simp only[Act.put,aJ,aI,aH]
   refine af rfl rfl ?_ ?_
   ·intro w1 ao hk
    have h35:bO w1 w1.heap.size (.slice (some ⟨Xd,0,none⟩) 2 2) [wt,a-pos]:=hk 43 (by decide)
    have hC:=Zg (eE 1 _ [wt,a-pos] w1 h35 (yU rfl) (tZ jU mz) (by decide) (by decide))
    exact⟨134,#[.slice (some ⟨Xd,0,none⟩) 2 2,.int .i64 1],by go_simp,hC⟩
   rintro _ ⟨nR,nT,nN,nP,nQ,nS,nM,nO,rfl⟩
   simp only[Act.put,aJ,aI,aH]
   refine af rfl rfl ?_ ?_
   ·intro w1 ao hk
    have h36:ExqAt w1 w1.heap.size (.agg (zD nR nT nN nP nQ nS nM nO)) (Zu 1 [wt,a-pos]) 30:=hk 44 (by decide)
    have hC:=Zg (ft _ _ _ _ (30+31*k) 30 w1 (HE.o.grow ao) h36 (by omega))
    exact⟨133,#[.agg (zD gM gQ gH gK gL gP gG gJ),.agg (zD nR nT nN nP nQ nS nM nO)],by go_simp,hC⟩
   rintro _ ⟨wO,wQ,wK,wM,wN,wP,wJ,wL,rfl⟩
   simp only[Act.put,aJ,aI,aH]
   refine Zc ?_
   intro w8 aM hF
   have WT:ExqAt w8 w8.heap.size (.agg (zD wO wQ wK wM wN wP wJ wL)) (jZ b a k+Zu 1 [wt,a-pos]) (30+31*(k+1)):=hF 45
   have HL:=zh WT
   have iV:=zh (aS.o.grow aM)
   obtain⟨_,_,_,_,_,_,_,_,h1,-⟩:=iV.o.sum
   have q0:=h1.cell 0
   have q1:=h1.cell 1
   have q2:=h1.cell 2
   have q3:=h1.cell 3
   have f0:=h1.frozen 0
   have f1:=h1.frozen 1
   have f2:=h1.frozen 2
   have f3:=h1.frozen 3
   simp only[aP,aQ,aO] at q0 q1 q2 q3
   rw[← HT.o] at HL
   clear hF u0 u1 u2 u3 u4 u5 u6 aM WT h1 HE aS
   go_wp2_with fail
   have ny:=zh (iV.o.put HL.o)
   clear q0 q1 q2 q3 f0 f1 f2 f3 HL iV
   go_roundw
   case rel=>exact⟨k+1,by omega,by go_num,ny⟩
   simp[intOf];omega
  have hd:decide (pos<a)=false:=yC qN
  have HT:Y0 (jZ b a (k+1)=jZ b a k):=by
   unfold Y0 jZ
   rw[lg.o]
   unfold se
   simp only[if_neg qN]
  have fF:Y0 (SumQ w wr (zC b As cs (some ⟨b2,o2,none⟩) cl) Ds (jZ b a (k+1)) (30+31*(k+1))):=by
   rw[HT.o]
   exact aS.o.more (by omega)
  clear lg aS
  go_wp2_with fail
  go_roundw
  case rel=>exact⟨k+1,by omega,by go_num,fF⟩
  simp[intOf];omega
 obtain rfl:k=b.loads.length:=by omega
 have r0:=aS.o.res.cell 0
 have r1:=aS.o.res.cell 1
 have r2:=aS.o.res.cell 2
 have r3:=aS.o.res.cell 3
 have f0:=aS.o.res.frozen 0
 have f1:=aS.o.res.frozen 1
 have f2:=aS.o.res.frozen 2
 have f3:=aS.o.res.frozen 3
 simp only[aP,aQ,aO] at r0 r1 r2 r3
 have dQ:=zh (jC (w:=w) (YK _) aS.o.bel aS.o.res (HE.o.more (K':=1270) (by omega)))
 clear aS
 go_wp2_with fail
 refine YI (v:=.agg (zD gM gQ gH gK gL gP gG gJ)) (by simp[results,Tryz.results168,go_sem,r0,r1,r2,r3]) rfl ?_
 exact⟨_,rfl,dQ.o.1,dQ.o.2⟩
end Go.Proofs.YtfhmbechennkbaaGreatDoor
