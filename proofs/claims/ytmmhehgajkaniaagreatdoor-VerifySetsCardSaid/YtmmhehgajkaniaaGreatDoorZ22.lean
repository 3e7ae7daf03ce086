/- Lemmas. -/
import Derived.Test.YtmmhehgajkaniaaGreatDoorZ21
namespace Go.Proofs.YtmmhehgajkaniaaGreatDoor
set_option maxRecDepth 100000
set_option maxHeartbeats 40000000
open Go.RowKit Go.Shelf
theorem Ec {s t:Bool} {m n:Int} (hs:s=decide (m<0)) (ht:t=decide (n<0)) (ly:s≠t) (h:n.natAbs≤m.natAbs):(s&&decide (m.natAbs-n.natAbs≠0))=decide (m+n<0)∧(m+n).natAbs=m.natAbs-n.natAbs:=by
 by_cases h1:m<0
 ·rw[yD h1] at hs;subst hs;have h2:¬n<0:=fun h2=>ly (by rw[ht,yD h2]);refine⟨?_,by omega⟩;rw[Bool.true_and,Bool.eq_iff_iff,yO,yO];omega
 rw[yC h1] at hs;subst hs;have h2:n<0:=by
  by_cases h2:n<0
  ·exact h2
  exact absurd (by rw[ht,yC h2]) ly
 refine⟨?_,by omega⟩;rw[Bool.false_and,yC (show ¬m+n<0 by omega)]
theorem qj3 (s t:Bool) (v u:Value) (m n:Int) (w:World) (hv:BigAt w w.heap.size s v m) (hu:BigAt w w.heap.size t u n) (hm:ag m.natAbs≤1000000) (hn:ag n.natAbs≤1000000) :
  Calls Tryz.prog 182 #[.agg #[.bool s,v],.agg #[.bool t,u]] w (sN w (m+n)):=by
 have HPl:Y0 (∀W,Below w.heap.size w W→Calls Tryz.prog 206 #[v,u] W (tS W (m.natAbs+n.natAbs))):=fun W hb=>Ch v u m.natAbs n.natAbs W (DgTo.grow hv.2 hb) (DgTo.grow hu.2 hb) hm hn;have HLa:Y0 (∀W,Below w.heap.size w W→Calls Tryz.prog 179 #[u,v] W fun e w'=>e=.returned (.bool (decide (m.natAbs<n.natAbs)))∧Below W.heap.size W w'):=fun W hb=>lM u v n.natAbs m.natAbs W (DgTo.grow hu.2 hb) (DgTo.grow hv.2 hb)
 have HM1:Y0 (n.natAbs≤m.natAbs→∀W,Below w.heap.size w W→Calls Tryz.prog 208 #[v,u] W (sM W (m.natAbs-n.natAbs) (ag m.natAbs))):=fun h W hb=>rE v u m.natAbs n.natAbs W (DgTo.grow hv.2 hb) (DgTo.grow hu.2 hb) hm h;have DK:Y0 (m.natAbs≤n.natAbs→∀W,Below w.heap.size w W→Calls Tryz.prog 208 #[u,v] W (sM W (n.natAbs-m.natAbs) (ag n.natAbs))):=fun h W hb=>rE u v n.natAbs m.natAbs W (DgTo.grow hu.2 hb) (DgTo.grow hv.2 hb) hn h
 have hs:=hv.1;have ht:=hu.1;obtain⟨A1,c1,rfl,-,-,-⟩:=hv.2.open_;obtain⟨A2,c2,rfl,-,-,-⟩:=hu.2.open_;clear hv hu;have D0:=((Blk.new w 191 #[.bool s,.slice A1 (ag m.natAbs) c1]).alloc (.cells #[.bool t,.slice A2 (ag n.natAbs) c2] 191)).alloc (.cells #[.bool false,.slice none 0 0] 191);have D1:=(Blk.new (w.alloc (.cells #[.bool s,.slice A1 (ag m.natAbs) c1] 191)) 191 #[.bool t,.slice A2 (ag n.natAbs) c2]).alloc (.cells #[.bool false,.slice none 0 0] 191)
 have D2:=Blk.new ((w.alloc (.cells #[.bool s,.slice A1 (ag m.natAbs) c1] 191)).alloc (.cells #[.bool t,.slice A2 (ag n.natAbs) c2] 191)) 191 #[.bool false,.slice none 0 0];have bp:=(((yB _ w).alloc (yA _) (.cells #[.bool s,.slice A1 (ag m.natAbs) c1] 191)).alloc (by simp) (.cells #[.bool t,.slice A2 (ag n.natAbs) c2] 191)).alloc (by simp;omega) (.cells #[.bool false,.slice none 0 0] 191);rw[yZ] at D1 D2
 rw[yZ] at D2;go_enter Tryz.func182,Tryz.ntmps182;by_cases ly:s=t
 ·subst ly;have eH:(s==s)=true:=beq_self_eq_true s;have vxB:(m+n).natAbs=m.natAbs+n.natAbs:=by
   by_cases h:m<0
   ·rw[yD h] at hs
    have:n<0:=yG (ht.symm.trans hs);omega
   rw[yC h] at hs
   have:¬n<0:=of_decide_eq_false (ht.symm.trans hs);omega
  have Ut:s=decide (m+n<0):=by
   by_cases h:m<0
   ·rw[yD h] at hs
    have:n<0:=yG (ht.symm.trans hs);rw[hs,yD (show m+n<0 by omega)]
   rw[yC h] at hs
   have:¬n<0:=of_decide_eq_false (ht.symm.trans hs);rw[hs,yC (show ¬m+n<0 by omega)]
  have HAb:=zh vxB;have HSg:=zh Ut;clear vxB Ut hs ht;go_wp2_with (exact zX);generalize ((w.alloc (.cells #[.bool s,.slice A1 (ag m.natAbs) c1] 191)).alloc (.cells #[.bool s,.slice A2 (ag n.natAbs) c2] 191)).alloc (.cells #[.bool false,.slice none 0 0] 191)=W3 at*;have cY:=zh D2;have HB:=zh bp;have x0:=D0.cell 0;have x1:=D0.cell 1;have x2:=D1.cell 1;simp only[aG,aH,aD] at x0 x1 x2;have u0:=YL x0;have u1:=YL x1
  have u2:=YL x2;clear x0 x1 x2 D0 D1 D2 bp;refine af 8 (fun jx=>if jx=6 then some (gDg (m.natAbs+n.natAbs)) else none) (by kernel_rfl) (by kernel_rfl) ?_;simp only[aM,aP,aN,aO];refine zw 6 ?_;simp only[aM,aP,aN,aO]
  repeat (go_big_quiet_step (fail))
  refine YE ?_;refine ae rfl rfl (fun w1 ak _=>⟨206,#[.slice A1 (ag m.natAbs) c1,.slice A2 (ag n.natAbs) c2],by go_simp,tF (HPl.o w1 (HB.o.trans (ak.mono HB.o.size)))⟩) ?_;rintro _ ⟨A3,c3,rfl⟩;simp only[Act.put,aC,aB,aA];refine zw 1 ?_;simp only[aM,aP,aN,aO]
  repeat (go_big_quiet_step (fail))
  refine YE ?_;refine Zc ?_;intro w8 aJ hF;have UY:DgTo w8 w8.heap.size (.slice A3 (ag (m.natAbs+n.natAbs)) c3) (m.natAbs+n.natAbs) (ag (m.natAbs+n.natAbs)):=hF 16;have bj:=zh (cY.o.below aJ cY.o.lt);have ep:=zh (HB.o.trans (aJ.mono HB.o.size));have H16:=zh UY;have z0:=bj.o.cell 0;have z1:=bj.o.cell 1;have f0:=bj.o.frozen 0;have f1:=bj.o.frozen 1;simp only[aG,aH,aD] at z0 z1;clear hF aJ UY u0 u1 u2
  have eu:=zh (vY (n:=m+n) (by omega) ep.o bj.o ⟨HSg.o,by unfold dA;rw[HAb.o];exact H16.o⟩);go_wp2_with fail;obtain⟨p0,p1,DD,xW⟩:=eu.o;refine YF (v:=.agg #[.bool s,.slice A3 (ag (m.natAbs+n.natAbs)) c3]) (by simp[results,Tryz.results182,go_sem,p0,p1]) rfl ?_;exact⟨s,_,rfl,DD,xW⟩
 have eH:(s==t)=false:=zb ly;have HS:=zh hs;have HT:=zh ht;have HST:=zh ly;clear hs ht ly;go_wp2_with (exact zX);generalize ((w.alloc (.cells #[.bool s,.slice A1 (ag m.natAbs) c1] 191)).alloc (.cells #[.bool t,.slice A2 (ag n.natAbs) c2] 191)).alloc (.cells #[.bool false,.slice none 0 0] 191)=W3 at*;refine (HLa.o _ bp).mono ?_;rintro e w4 ⟨rfl,bU⟩;have fI:=zh (bp.trans (bU.mono bp.size));have vK:=D0.below bU D0.lt
 have kC:=D1.below bU D1.lt;have cY:=zh (D2.below bU D2.lt);clear D0 D1 D2 bp bU;by_cases ao:m.natAbs<n.natAbs
 ·rw[yD ao];have x0:=vK.cell 0;have x1:=vK.cell 1;have x2:=kC.cell 0;have x3:=kC.cell 1;have g0:=vK.frozen 0;have g1:=vK.frozen 1;have g2:=kC.frozen 0;have g3:=kC.frozen 1;simp only[aG,aH,aD] at x0 x1 x2 x3;have HDx:=zh vK;have HDy:=zh kC;clear vK kC;go_wp2_with (exact zX);have Pj:Y0 ((t&&decide (n.natAbs-m.natAbs≠0))=decide (m+n<0)∧(m+n).natAbs=n.natAbs-m.natAbs):=by
   have h:=Ec HT.o HS.o (fun e=>HST.o e.symm) (YG ao);rw[Int.add_comm] at h;exact h
  generalize hw5:(((w4.setCell ⟨w.heap.size,0,none⟩ (.bool t)).setCell ⟨w.heap.size,1,none⟩ (.slice A2 (ag n.natAbs) c2)).setCell ⟨w.heap.size+1,0,none⟩ (.bool s)).setCell ⟨w.heap.size+1,1,none⟩ (.slice A1 (ag m.natAbs) c1)=w5 at*;have hE0:Blk w5 w.heap.size 191 #[.bool t,.slice A2 (ag n.natAbs) c2]:=by
   rw[←hw5];exact (((HDx.o.set_ 0 _).set_ 1 _).far (by simp) _).far (by simp) _
  have lG:Blk w5 (w.heap.size+1) 191 #[.bool s,.slice A1 (ag m.natAbs) c1]:=by
   rw[←hw5];exact (((HDy.o.far (by simp) _).far (by simp) _).set_ 0 _).set_ 1 _
  have pK:Y0 (Blk w5 (w.heap.size+1+1) 191 #[.bool false,.slice none 0 0]):=by
   unfold Y0;rw[←hw5];exact (((cY.o.far (by simp;omega) _).far (by simp;omega) _).far (by simp) _).far (by simp) _
  have cJ:Y0 (Below w.heap.size w w5):=by
   unfold Y0;rw[←hw5];exact (((fI.o.setCell (p:=⟨w.heap.size,0,none⟩) (yA _) _).setCell (p:=⟨w.heap.size,1,none⟩) (yA _) _).setCell (p:=⟨w.heap.size+1,0,none⟩) (YH _) _).setCell (p:=⟨w.heap.size+1,1,none⟩) (YH _) _
  clear x0 x1 x2 x3 g0 g1 g2 g3 hw5 HDx HDy cY fI;have x0:=hE0.cell 0;have x1:=hE0.cell 1;have x2:=lG.cell 1;simp only[aG,aH,aD] at x0 x1 x2;have u0:=YL x0;have u1:=YL x1;have u2:=YL x2;clear x0 x1 x2 hE0 lG;refine af 9 (fun jx=>if jx=6 then some (gDk (n.natAbs-m.natAbs) (ag n.natAbs)) else if jx=8 then some (Hu (m+n)) else none) (by kernel_rfl) (by kernel_rfl) ?_;simp only[aM,aP,aN,aO];refine zw 6 ?_
  simp only[aM,aP,aN,aO]
  repeat (go_big_quiet_step (fail))
  refine YE ?_;refine ae rfl rfl (fun w1 ak _=>⟨208,#[.slice A2 (ag n.natAbs) c2,.slice A1 (ag m.natAbs) c1],by go_simp,yx (DK.o (YG ao) w1 (cJ.o.trans (ak.mono cJ.o.size)))⟩) ?_;rintro _ ⟨A3,c3,rfl⟩;simp only[Act.put,aC,aB,aA];refine zw 1 ?_;simp only[aM,aP,aN,aO]
  repeat (go_big_quiet_step (fail))
  refine YE ?_;refine ae rfl rfl (fun w1 ak hk=>⟨207,#[.agg #[.bool t,.slice A3 (ag n.natAbs) c3]],by go_simp,dV ((nV t _ (n.natAbs-m.natAbs) (ag n.natAbs) w1 (hk 32 zk 31 zk) (cj (Nat.sub_le _ _))).mono (fun e w' h=>by
   obtain⟨v',rfl,h1,h2⟩:=h;exact⟨_,v',rfl,h1,Pj.o.1,by unfold dA;rw[Pj.o.2];exact h2⟩))⟩) ?_
  rintro _ ⟨s3,A4,c4,rfl⟩;simp only[Act.put,aC,aB,aA];refine Zc ?_;intro w8 aJ hF;obtain⟨s4,v4,e4,h33⟩:∃s v,Value.agg #[.bool s3,.slice A4 (ag (m+n).natAbs) c4]=.agg #[.bool s,v]∧BigAt w8 w8.heap.size s v (m+n):=hF 33;injection e4 with e4;simp only[Array.mk.injEq,List.cons.injEq,Value.bool.injEq,and_true] at e4;obtain⟨rfl,rfl⟩:=e4;have bj:=zh (pK.o.below aJ pK.o.lt);have ep:=zh (cJ.o.trans (aJ.mono cJ.o.size))
  have z0:=bj.o.cell 0;have z1:=bj.o.cell 1;have f0:=bj.o.frozen 0;have f1:=bj.o.frozen 1;simp only[aG,aH,aD] at z0 z1;have eu:=zh (vY (n:=m+n) (by omega) ep.o bj.o h33);clear hF aJ u0 u1 u2 h33;go_wp2_with fail;obtain⟨p0,p1,DD,xW⟩:=eu.o;refine YF (v:=.agg #[.bool s3,.slice A4 (ag (m+n).natAbs) c4]) (by simp[results,Tryz.results182,go_sem,p0,p1]) rfl ?_;exact⟨s3,_,rfl,DD,xW⟩
 rw[yC ao];have Pj:=zh (Ec HS.o HT.o HST.o (Nat.le_of_not_lt ao));go_wp2_with (exact zX);have x0:=vK.cell 0;have x1:=vK.cell 1;have x2:=kC.cell 1;simp only[aG,aH,aD] at x0 x1 x2;have u0:=YL x0;have u1:=YL x1;have u2:=YL x2;clear x0 x1 x2 vK kC;refine af 9 (fun jx=>if jx=6 then some (gDk (m.natAbs-n.natAbs) (ag m.natAbs)) else if jx=8 then some (Hu (m+n)) else none) (by kernel_rfl) (by kernel_rfl) ?_
 simp only[aM,aP,aN,aO];refine zw 6 ?_;simp only[aM,aP,aN,aO]
 repeat (go_big_quiet_step (fail))
 refine YE ?_;refine ae rfl rfl (fun w1 ak _=>⟨208,#[.slice A1 (ag m.natAbs) c1,.slice A2 (ag n.natAbs) c2],by go_simp,yx (HM1.o (Nat.le_of_not_lt ao) w1 (fI.o.trans (ak.mono fI.o.size)))⟩) ?_;rintro _ ⟨A3,c3,rfl⟩;simp only[Act.put,aC,aB,aA];refine zw 1 ?_;simp only[aM,aP,aN,aO]
 repeat (go_big_quiet_step (fail))
 refine YE ?_;refine ae rfl rfl (fun w1 ak hk=>⟨207,#[.agg #[.bool s,.slice A3 (ag m.natAbs) c3]],by go_simp,dV ((nV s _ (m.natAbs-n.natAbs) (ag m.natAbs) w1 (hk 32 zk 31 zk) (cj (Nat.sub_le _ _))).mono (fun e w' h=>by
  obtain⟨v',rfl,h1,h2⟩:=h;exact⟨_,v',rfl,h1,Pj.o.1,by unfold dA;rw[Pj.o.2];exact h2⟩))⟩) ?_
 rintro _ ⟨s3,A4,c4,rfl⟩;simp only[Act.put,aC,aB,aA];refine Zc ?_;intro w8 aJ hF;obtain⟨s4,v4,e4,h33⟩:∃s v,Value.agg #[.bool s3,.slice A4 (ag (m+n).natAbs) c4]=.agg #[.bool s,v]∧BigAt w8 w8.heap.size s v (m+n):=hF 33;injection e4 with e4;simp only[Array.mk.injEq,List.cons.injEq,Value.bool.injEq,and_true] at e4;obtain⟨rfl,rfl⟩:=e4;have bj:=zh (cY.o.below aJ cY.o.lt);have ep:=zh (fI.o.trans (aJ.mono fI.o.size))
 have z0:=bj.o.cell 0;have z1:=bj.o.cell 1;have f0:=bj.o.frozen 0;have f1:=bj.o.frozen 1;simp only[aG,aH,aD] at z0 z1;have eu:=zh (vY (n:=m+n) (by omega) ep.o bj.o h33);clear hF aJ u0 u1 u2 h33;go_wp2_with fail;obtain⟨p0,p1,DD,xW⟩:=eu.o;refine YF (v:=.agg #[.bool s3,.slice A4 (ag (m+n).natAbs) c4]) (by simp[results,Tryz.results182,go_sem,p0,p1]) rfl ?_;exact⟨s3,_,rfl,DD,xW⟩
theorem CJ (N k:Nat):cN (ax N) k≤N:=by rw[oL];exact Nat.mod_le _ _
theorem qa {N k:Nat} (h:ag N≤k):cN (ax N) k=N:=by rw[oL];exact Nat.mod_eq_of_lt (dj.2 h)
theorem JX {M N i k cy G:Nat} (hG:G+16777216^(i+k)*cy=cN (ax M) i*N+16777216^i*(ax M i*cN (ax N) k)) (hk:ag N<k):cy=0:=by
 rcases Nat.eq_zero_or_pos cy with h|h
 ·exact h
 exfalso
 have h1:cN (ax M) i*N+16777216^i*(ax M i*cN (ax N) k)≤cN (ax M) (i+1)*N:=by
  rw[←B4];exact Nat.add_le_add_left (Nat.mul_le_mul_left _ (Nat.mul_le_mul_left _ (CJ N k))) _
 have h2:cN (ax M) (i+1)*N<16777216^(i+1)*16777216^ag N:=Nat.mul_lt_mul'' (vL (eP M) _) (jc N);rw[←Nat.pow_add] at h2;have h3:16777216^(i+1+ag N)≤16777216^(i+k):=Nat.pow_le_pow_right (by decide) (by omega);have h4:16777216^(i+k)*1≤16777216^(i+k)*cy:=Nat.mul_le_mul_left _ h;omega
theorem TX (n:Nat):(madeCells (Value.cells (.int .i64 0)) (n*1)).toList=(List.replicate n 0).map qb:=by
 apply List.ext_getElem
 ·simp[size_madeCells]
 intro i h1 h2;simp[madeCells,Value.cells,Nat.mod_one,qb]
theorem TM {s t:Bool} {m n:Int} (hs:s=decide (m<0)) (ht:t=decide (n<0)):((!(s==t))&&decide (m.natAbs*n.natAbs≠0))=decide (m*n<0):=by
 subst hs ht;rcases Int.lt_trichotomy m 0 with h|h|h
 ·rcases Int.lt_trichotomy n 0 with k|k|k
  ·rw[yD h,yD k,yC (show ¬m*n<0 from Int.not_lt.2 (Int.le_of_lt (Int.mul_pos_of_neg_of_neg h k)))];rfl
  ·subst k;simp
  rw[yD h,yC (show ¬n<0 by omega),yD (show m*n<0 from Int.mul_neg_of_neg_of_pos h k),yD (Nat.mul_ne_zero (by omega) (by omega):m.natAbs*n.natAbs≠0)];rfl
 ·subst h;simp
 rcases Int.lt_trichotomy n 0 with k|k|k
 ·rw[yC (show ¬m<0 by omega),yD k,yD (show m*n<0 from Int.mul_neg_of_pos_of_neg h k),yD (Nat.mul_ne_zero (by omega) (by omega):m.natAbs*n.natAbs≠0)];rfl
 ·subst k;simp
 rw[yC (show ¬m<0 by omega),yC (show ¬n<0 by omega),yC (show ¬m*n<0 from Int.not_lt.2 (Int.le_of_lt (Int.mul_pos h k)))];rfl
structure PrSt (w wr:World) (g n:Nat) (s t:Bool) (sx sy:Value) (O:List Nat):Prop where
 own:wr.ownsRow w.heap.size 3 1 (.slice (some ⟨g,0,none⟩) n n) n (O.map qb)
 ok:Gok O
 bel:Below w.heap.size w wr
 gw:w.heap.size+3≤g
 d1:Blk wr w.heap.size 191 #[.bool s,sx]
 d2:Blk wr (w.heap.size+1) 191 #[.bool t,sy]
 d3:Blk wr (w.heap.size+1+1) 191 #[.bool false,.slice none 0 0]
section
variable {w wr:World} {g n:Nat} {s t:Bool} {sx sy:Value} {O:List Nat}
theorem PrSt.len (h:PrSt w wr g n s t sx sy O):O.length=n:=by have:=h.own.1;rw[yP] at this;omega
theorem PrSt.cell (h:PrSt w wr g n s t sx sy O) {i:Nat} (hi:i<n):wr.cell? ⟨g,i,none⟩=some (.int .i64 (dq O i:Nat)):=by
 rw[h.own.cellAt i (by omega),YC,yM (by rw[h.len];exact hi),oQ (by rw[h.len];exact hi)];rfl
theorem PrSt.set (h:PrSt w wr g n s t sx sy O) (i x:Nat) (hx:x<16777216):PrSt w (wr.setCell ⟨g,i,none⟩ (.int .i64 (x:Nat))) g n s t sx sy (O.set i x):=by
 have hg:=h.gw;have kB:wr.grownBy (wr.setCell ⟨g,i,none⟩ (.int .i64 (x:Nat))) (some g):=⟨rfl,rfl,rfl,by simp[World.setCell],fun k _ hk=>Below.heap_setCell wr _ _ k (fun e=>hk (by rw[e]))⟩;refine⟨?_,h.ok.set i hx,h.bel.setCell (p:=⟨g,i,none⟩) (by show w.heap.size≤g;omega) _,hg,h.d1.kept kB (by simp;omega),h.d2.kept kB (by simp;omega),h.d3.kept kB (by simp;omega)⟩;rw[List.map_set];exact (h.own.stored i (qb x)).1
theorem PrSt.drewN (h:PrSt w wr g n s t sx sy O) (q:Nat):PrSt w (wr.drewN q) g n s t sx sy O:=⟨fL h.own q,h.ok,Zf h.bel q,h.gw,h.d1.drewN q,h.d2.drewN q,h.d3.drewN q⟩
end
theorem gu (s t:Bool) (v u:Value) (m n:Int) (w:World) (hv:BigAt w w.heap.size s v m) (hu:BigAt w w.heap.size t u n) (hm:ag m.natAbs≤400000) (hn:ag n.natAbs≤400000) :
  Calls Tryz.prog 183 #[.agg #[.bool s,v],.agg #[.bool t,u]] w (sN w (m*n)):=by
 have HSg:=zh (TM hv.1 hu.1);have HAb:=zh (Int.natAbs_mul m n);obtain⟨-,hv⟩:=hv;obtain⟨-,hu⟩:=hu;generalize m.natAbs=M at*;generalize n.natAbs=N at*;have PO:Y0 (∀W,Below w.heap.size w W→∀i,i≤maxLen→Calls Tryz.prog 209 #[u,.int .i64 (i:Nat)] W fun e w'=>e=.returned (.int .i64 (ax N i:Nat))∧W=w'):=fun W hb i hi=>vD u N i W (DgTo.grow hu hb) hi;obtain⟨A1,c1,rfl,fU,pR,fE⟩:=DgTo.open_ hv;obtain⟨A2,c2,rfl,cM,nH,-⟩:=DgTo.open_ hu
 unfold maxLen at pR nH;have PQ:=zh fE;obtain⟨la,Xc⟩:∃la,la=ag M:=⟨_,rfl⟩;obtain⟨lb,hlb⟩:∃lb,lb=ag N:=⟨_,rfl⟩;have HLA:=zh Xc;have HLB:=zh hlb;rw[←Xc] at hm fU PQ⊢;rw[←hlb] at hn cM PO⊢;obtain⟨i0,jB,hH,jb,km⟩:=info_parts lS;have aZ:i0.bytes*(la+lb+1)≤281474976710656:=by rw[km];omega
 obtain⟨B1,B2,B3,bp⟩:=bV w 191 191 191 #[.bool s,.slice A1 la c1] #[.bool t,.slice A2 lb c2] #[.bool false,.slice none 0 0];have cP:=zh B1;have dZ:=zh B2;have cZ:=zh B3;have HBW:=zh bp;clear hv hu fE Xc hlb B1 B2 B3 bp;go_enter Tryz.func183,Tryz.ntmps183;go_upto_region 1 with fail;generalize Kv:((w.alloc (.cells #[.bool s,.slice A1 la c1] 191)).alloc (.cells #[.bool t,.slice A2 lb c2] 191)).alloc (.cells #[.bool false,.slice none 0 0] 191)=W3 at*
 have C6:W3.heap.size=w.heap.size+1+1+1:=by rw[←Kv];simp
 have nF:=zh C6;clear C6 Kv;have x1:=cP.o.cell 1;have x2:=dZ.o.cell 1;simp only[aG,aH,aD] at x1 x2;go_upto_region 2 with (at_make;refine wpList_make_full _ rfl _ _ 22 rfl w.heap.size 3 i0 (.int .i64 0) 1 Tryz.underlying22 jB hH jb .i64 .i64 _ _ (la+lb+1) rfl rfl rfl rfl aZ (by unfold maxLen;omega) HBW.o.size ?_;intro w4 bC bz);rw[TX] at bC;have KV:Y0 (PrSt w w4 (w.heap.size+1+1+1) (la+lb+1) s t (.slice A1 la c1) (.slice A2 lb c2) (List.replicate (la+lb+1) 0)):=by
  rw[nF.o] at bC;exact⟨bC,Gok.zeros _,HBW.o.grown bz HBW.o.size (fun k hk=>by cases hk),by omega,cP.o.kept bz (by simp),dZ.o.kept bz (by simp),cZ.o.kept bz (by simp)⟩
 have C6:=nF.o;rw[C6];obtain⟨g,hg⟩:=zo (w.heap.size+1+1+1);rw[hg] at KV⊢;have vn:Y0 (cN (dq (List.replicate (la+lb+1) 0)) (la+lb+1)=cN (ax M) 0*N):=by
  unfold Y0;rw[yc];show 0=0*N;rw[Nat.zero_mul]
 have q1:=KV.o.d1.cell 1;simp only[aG,aH,aD] at q1;clear bC bz jB hH jb aZ hg C6 nF cP dZ cZ HBW x1 x2;go_wp2_with fail;go_loopw [6] (fun ix wr=>∃(i:Nat) (O:List Nat),i≤la∧ix=.int .i64 i∧Y0 (PrSt w wr g (la+lb+1) s t (.slice A1 la c1) (.slice A2 lb c2) O)∧Y0 (cN (dq O) (la+lb+1)=cN (ax M) i*N)) (fun ix _=>la-(intOf ix).toNat)
 case atStart=>exact⟨0,_,yI _,rfl,KV,vn⟩
 clear KV vn q1;obtain⟨i,O,hi,rfl,HT,HS⟩:=hrel;have j0:(0:Int)≤(i:Int):=yE _;have q1:=HT.o.d1.cell 1;have q2:=HT.o.d2.cell 1;simp only[aG,aH,aD] at q1 q2;by_cases hix:i<la
 ·have j1:(i:Int)<(la:Int):=by omega
  obtain⟨b1,o1,rfl,ak,Oc⟩:=PQ.o i hix;have HX:Y0 (∀W,Below w.heap.size w W→W.cell? ⟨b1,o1+i,none⟩=some (.int .i64 (ax M i:Nat))):=fun W hb=>(hb.cell (p:=⟨b1,o1+i,none⟩) ak).trans (Oc i hix);have x0:=eP M i;have zv:Y0 (cN (dq O) (la+lb+1)+16777216^(i+0)*0=cN (ax M) i*N+16777216^i*(ax M i*cN (ax N) 0)):=by
   unfold Y0;rw[HS.o,Nat.mul_zero];show _=_+16777216^i*(ax M i*0);rw[Nat.mul_zero,Nat.mul_zero]
  clear Oc;go_wp2_with fail;go_loopw [7,8] (fun cx kx wr=>∃(k cy:Nat) (O:List Nat),k≤lb+1∧kx=.int .i64 k∧cx=.int .i64 (cy:Nat)∧cy<16777216∧Y0 (PrSt w wr g (la+lb+1) s t (.slice (some ⟨b1,o1,none⟩) la c1) (.slice A2 lb c2) O)∧Y0 (cN (dq O) (la+lb+1)+16777216^(i+k)*cy=cN (ax M) i*N+16777216^i*(ax M i*cN (ax N) k))) (fun _ kx _=>lb+1-(intOf kx).toNat)
  case atStart=>exact⟨0,0,O,yI _,rfl,rfl,by decide,HT,zv⟩
  clear HT HS zv q1 q2;obtain⟨k,cy,O,hk,rfl,rfl,Pz,HT,HS⟩:=hrel;have CG:lb<k→cy=0:=fun h=>JX HS.o (by rw[←HLB.o];exact h);have k0:(0:Int)≤(k:Int):=yE _;have Xl:(0:Int)≤(cy:Int):=yE _;have c3':(cy:Int)<16777216:=by omega
  have q1:=HT.o.d1.cell 1;have q2:=HT.o.d2.cell 1;simp only[aG,aH,aD] at q1 q2;have jJ:(k<lb∨(¬k<lb∧0<cy))∨(¬k<lb∧cy=0):=by omega
  rcases jJ with xS|⟨Me,Ux⟩
  ·have ay:k≤lb:=by
    rcases xS with h|⟨h,h2⟩
    ·omega
    rcases Nat.lt_or_ge lb k with h3|h3
    ·have:=CG h3;omega
    exact h3
   have hx:=HX.o wr HT.o.bel;have y0:=eP N k;have z1:=HT.o.cell (show i+k<la+lb+1 by omega);have z2:=HT.o.own.frozenAt (i+k);have o0:dq O (i+k)<16777216:=M6 HT.o.ok _;have nt:Y0 (cN (dq (O.set (i+k) ((ax M i*ax N k+dq O (i+k)+cy)%16777216))) (la+lb+1)+16777216^(i+(k+1))*((ax M i*ax N k+dq O (i+k)+cy)/16777216)=cN (ax M) i*N+16777216^i*(ax M i*cN (ax N) (k+1))):=by
    have h:=Ve (x:=ax M i) (y:=ax N k) (show i+k<O.length by rw[HT.o.len];omega) HT.o.len HS.o;exact h.trans (Vf rfl)
   have H1:=fun q=>qp (PO.o (wr.drewN q) (Zf HT.o.bel q) k (by unfold maxLen;omega));have aS:=zh fun q=>(HT.o.drewN q).set (i+k) ((ax M i*ax N k+dq O (i+k)+cy)%16777216) (YJ _ (by decide));have d:decide (k<lb)=true∨(decide (k<lb)=false∧decide (0<cy)=true):=xS.elim (fun h=>.inl (yD h)) fun h=>.inr ⟨yC h.1,yD h.2⟩;clear CG xS HX;generalize ax M i=x at*;generalize ax N k=y at*;generalize dq O (i+k)=o at*
   have eN:x*y+o+cy=o+x*y+cy:=by omega
   rw[eN] at nt aS;have x2:(0:Int)≤(x:Int):=yE _;have y2:(0:Int)≤(y:Int):=yE _;have o2:(0:Int)≤(o:Int):=yE _;have xy0:(0:Int)≤(x:Int)*(y:Int):=Int.mul_nonneg x2 y2;have xy1:(x:Int)*(y:Int)≤281474943156225:=by
    have:(x:Int)*(y:Int)≤16777215*16777215:=Int.mul_le_mul (by omega) (by omega) y2 (by decide);omega
   have HMc:Y0 ((o+x*y+cy)/16777216<16777216):=by
    have h1:x*y≤16777215*16777215:=Nat.mul_le_mul (by omega) (by omega);unfold Y0;rw[Nat.div_lt_iff_lt_mul (by decide)];omega
   have v0:IntKind.i64.wrap ((i:Int)+(k:Int))=(i:Int)+(k:Int):=yF _ (by omega);have v1:IntKind.i64.wrap ((x:Int)*(y:Int))=(x:Int)*(y:Int):=yF _ (by omega);have v2:IntKind.i64.wrap ((o:Int)+(x:Int)*(y:Int))=(o:Int)+(x:Int)*(y:Int):=yF _ (by omega);have v3:IntKind.i64.wrap ((o:Int)+(x:Int)*(y:Int)+(cy:Int))=(o:Int)+(x:Int)*(y:Int)+(cy:Int):=yF _ (by omega);have ik0:(0:Int)≤(i:Int)+(k:Int):=by omega
   have ik1:(i:Int)+(k:Int)<(la:Int)+(lb:Int)+1:=by omega
   have ik3:(i:Int)+(k:Int)<((la+lb+1:Nat):Int):=by omega
   have ik2:((i:Int)+(k:Int)).toNat=i+k:=by omega
   clear eN HT HS;rcases d with d1|⟨d1,d2⟩
   all_goals
    go_wp2_with fail;go_quiet ((go_at_call 209;exact H1 _));go_wp2_with fail;go_roundw
    case rel=>exact⟨k+1,(o+x*y+cy)/16777216,_,by omega,by go_num,by go_num,HMc.o,aS.o _,nt⟩
    simp[intOf] <;> omega
  subst Ux;have d1:decide (k<lb)=false:=yC Me;have iw:Y0 (cN (dq O) (la+lb+1)=cN (ax M) (i+1)*N):=by
   have h:=HS.o;rw[Nat.mul_zero,Nat.add_zero,qa (N:=N) (k:=k) (by rw[←HLB.o];omega)] at h;exact h.trans B4
  have Au:=zh HT.o;clear HT HS CG HX;go_wp2_with fail;go_roundw
  case rel=>exact⟨i+1,_,by omega,by go_num,Au,iw⟩
  simp[intOf] <;> omega
 obtain rfl:i=la:=by omega
 have hG:gv O=M*N:=by
  have h:=HS.o;rw[qa (by rw[←HLA.o];omega)] at h;unfold gv;rw[HT.o.len];exact h
 have hdg:O=bY (M*N) (i+lb+1):=by
  have h:=NR HT.o.ok;rw[hG,HT.o.len] at h;exact h
 have aK:=HT.o.own;rw[hdg] at aK;have hT:=nV (!(s==t)) (.slice (some ⟨g,0,none⟩) (i+lb+1) (i+lb+1)) (M*N) (i+lb+1) wr (jF aK) (yH (im (Nat.le_of_eq HLA.o.symm) (Nat.le_of_eq HLB.o.symm)) (by omega));rw[HSg.o] at hT;have q0:=HT.o.d1.cell 0;have q3:=HT.o.d2.cell 0;simp only[aG,aD] at q0 q3;have d9:=zh HT.o.d3;have k7:=zh HT.o.bel;clear hG hdg aK HT HS;go_wp2_with fail;refine hT.mono ?_;rintro e w5 ⟨v5,rfl,aR,hd5⟩
 obtain⟨A5,c5,rfl,-⟩:=DgTo.open_ hd5;have pK:=zh (d9.o.below aR d9.o.lt);have cJ:=zh (k7.o.trans (aR.mono k7.o.size));have HV5:Y0 (BigAt w5 w5.heap.size (decide (m*n<0)) (.slice A5 (ag (M*N)) c5) (m*n)):=⟨rfl,by unfold dA;rw[HAb.o];exact hd5⟩;have z0:=pK.o.cell 0;have z1:=pK.o.cell 1;have f0:=pK.o.frozen 0;have f1:=pK.o.frozen 1;simp only[aG,aH,aD] at z0 z1;have eu:=zh (vY (n:=m*n) (by omega) cJ.o pK.o HV5.o)
 generalize Ut:decide (m*n<0)=sg at*;clear aR hd5 HV5 hT d9 k7;go_wp2_with fail;obtain⟨p0,p1,DD,xW⟩:=eu.o;refine YF (v:=.agg #[.bool sg,.slice A5 (ag (M*N)) c5]) (by simp[results,Tryz.results183,go_sem,p0,p1]) rfl ?_;exact⟨sg,_,rfl,DD,xW⟩
theorem qU (j:Nat):16777216^j=2^(24*j):=by rw[Nat.pow_mul]
theorem Is {K a b t x y:Nat} (h:Twos (16777216^K) a b t x y):t<24*K:=by
 have h1:2^t*1≤2^t*x:=Nat.mul_le_mul_left _ h.x0;have h2:=h.xm;rw[qU] at h2;rw[Nat.mul_one] at h1;exact (Nat.pow_lt_pow_iff_right (a:=2) (by decide)).1 (Nat.lt_of_le_of_lt h1 h2)
theorem kdl {K x:Nat} (hK:K≤300000) (h:x<16777216^K):ag x≤1000000:=yH (jd h) (by omega)
theorem qj5 (v u:Value) (a b K:Nat) (w:World) (hv:dA w w.heap.size v a) (hu:dA w w.heap.size u b) (hK:K≤300000) (ha:ag a≤K) (hb:ag b≤K) (DG:0<a) (eH:0<b) :
  Calls Tryz.prog 185 #[v,u] w (tS w (Nat.gcd a b)):=by
 have HA:=zh hv;have HB:=zh hu;have HK:Y0 (K≤300000):=hK;have HS:Y0 (Twos (16777216^K) a b 0 a b):=⟨DG,eH,by rw[Nat.pow_zero,Nat.one_mul];exact dj.2 ha,dj.2 hb,by rw[Nat.pow_zero,Nat.one_mul]⟩;clear hv hu hK ha hb DG eH;go_enter Tryz.func185,Tryz.ntmps185;go_wp2_with fail;go_loopg [0,1,5] a (fun gk va vb tw wr=>∃y t:Nat,tw=.int .i64 t∧Y0 (dA wr wr.heap.size va gk)∧Y0 (dA wr wr.heap.size vb y)∧Y0 (Twos (16777216^K) a b t gk y)∧Below w.heap.size w wr)
 case atStart=>exact⟨b,0,rfl,HA,HB,HS,yB _ _⟩
 clear HA HB HS;obtain⟨y,t,rfl,HA,HB,HS,ai⟩:=hrel;obtain⟨x,rfl⟩:∃x,x=gk:=⟨_,rfl⟩;have ht:t<16000000:=by have:=Is HS.o;have:=HK.o;omega
 go_wp2_with fail;refine (Ck _ x _ HA.o).mono ?_;rintro e w3 ⟨rfl,bM⟩;have zz:=zh (DgTo.grow HA.o bM);have cZ:=zh (DgTo.grow HB.o bM);have kG:=zh (ai.trans (bM.mono ai.size));clear HA HB ai bM;by_cases hx:x%2=0
 case' pos=>
  rw[yD hx];go_wp2_with fail;refine (Ck _ y _ cZ.o).mono ?_;rintro e w4 ⟨rfl,bU⟩;have HA4:=zh (DgTo.grow zz.o bU);have fI:=zh (DgTo.grow cZ.o bU);have D4:=zh (kG.o.trans (bU.mono kG.o.size));clear zz cZ kG bU;by_cases hy:y%2=0
  case' pos=>
   rw[yD hy];have iw:=zh (HS.o.half hx hy);clear hx hy;go_wp2_with fail;refine (Cj _ x _ HA4.o (kdl HK.o HS.o.xlt)).mono ?_;rintro e w5 ⟨va,rfl,aR,UU⟩;have Po:=zh UU;have cJ:=zh (DgTo.grow fI.o aR);clear UU;go_wp2_with fail;refine (Cj _ y _ cJ.o (kdl HK.o HS.o.ym)).mono ?_;rintro e w6 ⟨vb,rfl,ie,hB6⟩;have HA6:=zh (DgTo.grow Po.o ie);have kH:=zh hB6;have k7:=zh (D4.o.trans ((aR.trans (ie.mono aR.size)).mono D4.o.size))
   have ao:Y0 (x/2<x):=Nat.div_lt_self HS.o.x0 (by decide);clear hB6 aR ie Po cJ HA4 fI D4 HS;go_wp2_with fail;go_roundg (x/2)
   case rel=>exact⟨y/2,t+1,by go_num,HA6,kH,iw,k7.o⟩
   exact ao.o
  case' neg=>
   rw[yC hy];have HT:Y0 (Stn (16777216^K) (Nat.gcd x y) x y):=⟨HS.o.y0,HS.o.xlt,HS.o.ym,rfl,.inr (by omega)⟩;clear hx hy;go_wp2_with fail
 case' neg=>
  rw[yC hx];have HT:Y0 (Stn (16777216^K) (Nat.gcd x y) x y):=⟨HS.o.y0,HS.o.xlt,HS.o.ym,rfl,.inl (by omega)⟩;obtain⟨w4,rfl⟩:∃w4:World,w4=w3:=⟨_,rfl⟩;have HA4:=zh zz.o;have fI:=zh cZ.o;have D4:=zh kG.o;clear hx zz cZ kG;go_wp2_with fail
 all_goals
  have HF:Y0 (2^t*Nat.gcd x y<16777216^K):=HS.o.glt;have HG:Y0 (Nat.gcd a b=2^t*Nat.gcd x y):=HS.o.g;obtain⟨G,Pf⟩:∃G,Y0 (Nat.gcd x y=G):=⟨_,rfl⟩;rw[Pf.o] at HF HG HT;clear HS;go_loopg [0,1] (x+y) (fun gk va vb wr=>∃x2 y2:Nat,x2+y2=gk∧Y0 (dA wr wr.heap.size va x2)∧Y0 (dA wr wr.heap.size vb y2)∧Y0 (Stn (16777216^K) G x2 y2)∧Below w.heap.size w wr)
  case atStart=>exact⟨x,y,rfl,HA4,fI,HT,D4.o⟩
  clear HA4 fI HT D4 Pf;obtain⟨x2,y2,rfl,HA,HB,HS,ai⟩:=hrel;obtain⟨A,c,rfl,fU,cM,-⟩:=DgTo.open_ HA.o;obtain⟨A',c',rfl,-,-,-⟩:=DgTo.open_ HB.o;unfold maxLen at cM;rcases Nat.eq_zero_or_pos x2 with h0|h0
  ·subst h0;have hz:ag 0=0:=gH;have HGy:Y0 (y2=G):=by
    unfold Y0;rw[←HS.o.g,Nat.gcd_zero_left]
   rw[hz];clear HS HA hz fU;rw[HGy.o] at HB⊢;clear HGy;go_wp2_with fail;go_loopw [1,6] (fun vb jx wr=>∃j:Nat,j≤t∧jx=.int .i64 j∧Y0 (dA wr wr.heap.size vb (2^j*G))∧Below w.heap.size w wr) (fun _ jx _=>t-(intOf jx).toNat)
   case atStart=>exact⟨0,yI _,rfl,by rw[Nat.pow_zero,Nat.one_mul];exact HB,ai⟩
   clear HB ai;obtain⟨j,hj,rfl,HB,ai⟩:=hrel;by_cases hjt:j<t
   ·have HL:Y0 (2^j*G<16777216^K):=Nat.lt_of_le_of_lt (Nat.mul_le_mul_right _ (Nat.pow_le_pow_right (by decide) hj)) HF.o;have HE:Y0 (2^j*G+2^j*G=2^(j+1)*G):=by unfold Y0;rw[Nat.pow_succ,Nat.mul_assoc,Nat.mul_left_comm];omega
    go_wp2_with fail;refine (Ch _ _ (2^j*G) (2^j*G) _ HB.o HB.o (kdl HK.o HL.o) (kdl HK.o HL.o)).mono ?_;rintro e w5 ⟨vb5,rfl,aR,Oo⟩;rw[HE.o] at Oo;have cJ:=zh Oo;have k7:=zh (ai.trans (aR.mono ai.size));clear aR Oo HE HL HB ai;go_wp2_with fail;go_roundw
    case rel=>exact⟨j+1,by omega,by go_num,cJ,k7.o⟩
    simp[intOf] <;> omega
   obtain rfl:j=t:=by omega
   go_wp2_with fail;go_ret;exact⟨_,rfl,ai,by rw[HG.o];exact HB.o⟩
  have hp:0<ag x2:=Nat.pos_of_ne_zero fun e=>by have:=oP.1 e;omega
  have dp:decide (0<ag x2)=true:=yD hp;have H0:=zh h0;clear h0;go_wp2_with fail;clear hp dp fU cM;go_loopg [0] x2 (fun gk va wr=>Y0 (dA wr wr.heap.size va gk)∧Y0 (dA wr wr.heap.size (.slice A' (ag y2) c') y2)∧Y0 (Stn (16777216^K) G gk y2)∧Y0 (0<gk∧gk≤x2)∧Below w.heap.size w wr)
  case atStart=>exact⟨HA,HB,HS,⟨H0.o,yA _⟩,ai⟩
  clear HA HB HS H0 ai;obtain⟨HA,HB,HS,HR,ai⟩:=hrel;obtain⟨x4,rfl⟩:∃x4,x4=gk:=⟨_,rfl⟩;go_wp2_with fail;refine (Ck _ x4 _ HA.o).mono ?_;rintro e w3 ⟨rfl,bM⟩;have zz:=zh (DgTo.grow HA.o bM);have cZ:=zh (DgTo.grow HB.o bM);have kG:=zh (ai.trans (bM.mono ai.size));clear HA HB ai bM;by_cases oG:x4%2=0
  ·rw[yD oG];have dY:=zh (HS.o.left oG);have pb:Y0 (0<x4/2∧x4/2≤x2):=by have:=HR.o;unfold Y0;omega
   have MO:Y0 (x4/2<x4):=Nat.div_lt_self HR.o.1 (by decide);clear oG;go_wp2_with fail;refine (Cj _ x4 _ zz.o (kdl HK.o HS.o.xm)).mono ?_;rintro e w5 ⟨va5,rfl,aR,UU⟩;have Po:=zh UU;have cJ:=zh (DgTo.grow cZ.o aR);have k7:=zh (kG.o.trans (aR.mono kG.o.size));clear aR UU cZ kG zz HS HR;go_wp2_with fail;go_roundg (x4/2)
   case rel=>exact⟨Po,cJ,dY,pb,k7.o⟩
   exact MO.o
  rw[yC oG];have Wz:Y0 (x4%2=1):=by unfold Y0;omega
  clear oG;obtain⟨A4,c4,e4,-,-,-⟩:=DgTo.open_ zz.o;rw[e4] at zz⊢;clear e4;go_wp2_with fail;go_loopg [1] y2 (fun gk vb wr=>Y0 (dA wr wr.heap.size (.slice A4 (ag x4) c4) x4)∧Y0 (dA wr wr.heap.size vb gk)∧Y0 (Stn (16777216^K) G x4 gk)∧Y0 (gk≤y2)∧Below w.heap.size w wr)
  case atStart=>exact⟨zz,cZ,HS,yA _,kG.o⟩
  clear zz cZ HS kG;obtain⟨HA,HB,HS,HY,ai⟩:=hrel;obtain⟨y4,rfl⟩:∃y4,y4=gk:=⟨_,rfl⟩;go_wp2_with fail;refine (Ck _ y4 _ HB.o).mono ?_;rintro e w3 ⟨rfl,bM⟩;have zz:=zh (DgTo.grow HA.o bM);have cZ:=zh (DgTo.grow HB.o bM);have kG:=zh (ai.trans (bM.mono ai.size));clear HA HB ai bM;by_cases oG:y4%2=0
  ·rw[yD oG];have dY:=zh (HS.o.right Wz.o oG);have HY5:Y0 (y4/2≤y2):=by have:=HY.o;unfold Y0;omega
   have MO:Y0 (y4/2<y4):=Nat.div_lt_self HS.o.y0 (by decide);clear oG;go_wp2_with fail;refine (Cj _ y4 _ cZ.o (kdl HK.o HS.o.ym)).mono ?_;rintro e w5 ⟨vb5,rfl,aR,Oo⟩;have cJ:=zh Oo;have Po:=zh (DgTo.grow zz.o aR);have k7:=zh (kG.o.trans (aR.mono kG.o.size));clear aR Oo cZ kG zz HS HY;go_wp2_with fail;go_roundg (y4/2)
   case rel=>exact⟨Po,cJ,dY,HY5,k7.o⟩
   exact MO.o
  rw[yC oG];have HOy:Y0 (y4%2=1):=by unfold Y0;omega
  clear oG;go_wp2_with fail;refine (lM _ _ y4 x4 _ cZ.o zz.o).mono ?_;rintro e w7 ⟨rfl,lF⟩;have WR:=zh (DgTo.grow zz.o lF);have pd:=zh (DgTo.grow cZ.o lF);have k7:=zh (kG.o.trans (lF.mono kG.o.size));clear zz cZ kG lF;by_cases ao:x4<y4
  ·rw[yD ao];have uT:=zh (YG ao);have dP:=zh ((HS.o.swap Wz.o).diff Wz.o (YG ao));have HM:Y0 (y4-x4+x4<x2+y2):=by have:=HR.o;have:=HY.o;unfold Y0;omega
   clear ao;go_wp2_with fail;refine (rE _ _ y4 x4 _ pd.o WR.o (kdl HK.o HS.o.ym) uT.o).mono ?_;rintro e w8 ⟨v8,rfl,aJ,Bz⟩;obtain⟨A8,c8,rfl,-,-,-⟩:=DgTo.open_ Bz;have qf:=zh Bz;have HA8:=zh (DgTo.grow WR.o aJ);have ep:=zh (k7.o.trans (aJ.mono k7.o.size));clear aJ Bz WR pd k7 HS;go_wp2_with fail;refine (nV false _ (y4-x4) (ag y4) _ qf.o (cj (Nat.sub_le _ _))).mono ?_;rintro e w9 ⟨v9,rfl,jz,D9⟩;obtain⟨A9,c9,rfl,-,-,-⟩:=DgTo.open_ D9
   have Y7:=fun W=>mw (false&&decide (y4-x4≠0)) A9 (ag (y4-x4)) c9 W;rw[Bool.false_and] at Y7;have zR:=zh D9;have HA9:=zh (DgTo.grow HA8.o jz);have nG:=zh (ep.o.trans (jz.mono ep.o.size));clear D9 jz qf HA8 ep;go_wp2_with fail;go_roundg (y4-x4+x4)
   case rel=>exact⟨y4-x4,x4,rfl,zR,HA9,dP,nG.o⟩
   exact HM.o
  rw[yC ao];have uT:=zh (Nat.not_lt.1 ao);have dP:=zh (HS.o.diff HOy.o (Nat.not_lt.1 ao));have HM:Y0 (x4-y4+y4<x2+y2):=by have:=HR.o;have:=HY.o;have:=HS.o.y0;unfold Y0;omega
  clear ao;go_wp2_with fail;refine (rE _ _ x4 y4 _ WR.o pd.o (kdl HK.o HS.o.xm) uT.o).mono ?_;rintro e w8 ⟨v8,rfl,aJ,Bz⟩;obtain⟨A8,c8,rfl,-,-,-⟩:=DgTo.open_ Bz;have qf:=zh Bz;have ep:=zh (DgTo.grow pd.o aJ);have Dz:=zh (k7.o.trans (aJ.mono k7.o.size));clear aJ Bz WR pd k7 HS;go_wp2_with fail;refine (nV false _ (x4-y4) (ag x4) _ qf.o (cj (Nat.sub_le _ _))).mono ?_;rintro e w9 ⟨v9,rfl,jz,D9⟩;obtain⟨A9,c9,rfl,-,-,-⟩:=DgTo.open_ D9
  have Y7:=fun W=>mw (false&&decide (x4-y4≠0)) A9 (ag (x4-y4)) c9 W;rw[Bool.false_and] at Y7;have zR:=zh D9;have nG:=zh (DgTo.grow ep.o jz);have vvI:=zh (Dz.o.trans (jz.mono Dz.o.size));clear D9 jz qf ep Dz;go_wp2_with fail;go_roundg (x4-y4+y4)
  case rel=>exact⟨x4-y4,y4,rfl,zR,nG,dP,vvI.o⟩
  exact HM.o
theorem NW:(Tryz.prog.info? 22).map (fun i=>(i.zero,i.size,i.bytes))=some (some (.slice none 0 0),1,24):=by kernel_rfl
theorem xi (w:World) (t:TypeId) (u:Value):(w.alloc (.cells #[u] t)).ownsRow w.heap.size t 1 (.slice (some ⟨w.heap.size,0,none⟩) 1 1) 1 [u] :=
 ⟨by simp,.inr ⟨w.heap.size,1,#[u],rfl,yA _,heap_alloc_new w _,yA _,by unfold maxLen;decide,rfl,by simp⟩⟩
theorem yr:ag 1=1:=by
 have h1:ag 1≤1:=jd (by decide);have h2:ag 1≠0:=fun e=>absurd (oP.1 e) (by decide);omega
theorem XU (w:World):dA (w.alloc (.cells #[.int .i64 1] 3)) (w.alloc (.cells #[.int .i64 1] 3)).heap.size (.slice (some ⟨w.heap.size,0,none⟩) 1 1) 1:=by
 unfold dA;rw[yr];exact jF (xi w 3 (.int .i64 1))
def QEl (wr:World) (B:Nat) (u:Value) (x:Nat):Prop:=dA wr B u x∨wr.ownsRow B 3 1 u (ag x) ((bY x (ag x)).map qb)
theorem QEl.at_ {wr:World} {B:Nat} {u:Value} {x:Nat} (h:QEl wr B u x) (hB:B≤wr.heap.size):dA wr wr.heap.size u x:=by
 rcases h with h|h
 ·exact DgTo.mono h hB
 exact jF h
theorem QEl.below {wr w':World} {B:Nat} {u:Value} {x:Nat} (h:QEl wr B u x) (hB:B≤wr.heap.size) (hb:Below wr.heap.size wr w'):QEl w' B u x:=by
 rcases h with h|h
 ·exact .inl (DgTo.below h hb hB)
 exact .inr (xu h hb)
theorem LF {w w':World} {B B' e t s m n:Nat} {v u:Value} {xs ys:List Value} (h:w.ownsRow B e 1 v n xs) (hg:w.grownBy w' v.ownBlock) (hk:w.ownsRow B' t s u m ys) (ht:t≠e):w'.ownsRow B' t s u m ys:=by
 refine hk.kept hg ?_;rcases h.2 with⟨rfl,_⟩|⟨g,cap,cur,rfl,_,vi,_⟩
 ·exact Classical.em _
 exact Be hk fun r e1 cs f h2=>by
  obtain rfl:g=r:=by simpa[Value.ownBlock] using e1
  rw[vi] at h2;injection h2 with h2;injection h2 with _ h2 _;exact ht h2.symm
theorem NG {w:World} {B B' e s n:Nat} {v:Value} {xs:List Value} (h:w.ownsRow B e s v n xs) (hB:B'≤B):w.ownsRow B' e s v n xs:=by
 refine⟨h.1,?_⟩;rcases h.2 with h|⟨g,cap,cur,e,hb,r⟩
 ·exact .inl h
 exact .inr ⟨g,cap,cur,e,yH hB hb,r⟩
structure QuoS (w wr:World) (rv:Value) (b:Nat) (vs:List Value) (n:Nat):Prop where
 bel:Below w.heap.size w wr
 own:wr.ownsRow w.heap.size 22 1 rv n vs
 el:∀i,i<n→∃u,vs[i]?=some u∧QEl wr w.heap.size u (b*2^i)
section
variable {w wr w2 w':World} {rv u v':Value} {b n:Nat} {vs:List Value}
theorem QuoS.below (h:QuoS w wr rv b vs n) (hb:Below wr.heap.size wr w'):QuoS w w' rv b vs n :=
 ⟨h.bel.trans (hb.mono h.bel.size),xu h.own hb,fun i hi=>let ⟨u,e,hu⟩:=h.el i hi;⟨u,e,hu.below h.bel.size hb⟩⟩
theorem QuoS.push (h:QuoS w w2 rv b vs n) (hu:w2.ownsRow w.heap.size 3 1 u (ag (b*2^n)) ((bY (b*2^n) (ag (b*2^n))).map qb)) (ho:w'.ownsRow w.heap.size 22 1 v' (n+1) (vs++[u])) (hg:w2.grownBy w' rv.ownBlock):QuoS w w' v' b (vs++[u]) (n+1):=by
 have hl:vs.length=n:=by have:=h.own.1;omega
 have eH:Below w.heap.size w2 w':=(yB _ w2).grown hg h.bel.size (fun k e=>(h.own.lt k e).1);refine⟨h.bel.trans eH,ho,fun i hi=>?_⟩;rcases Nat.lt_or_ge i n with h1|h1
 ·obtain⟨x,e,hx⟩:=h.el i h1;refine⟨x,by rw[List.getElem?_append_left (by omega)];exact e,?_⟩;rcases hx with hx|hx
  ·exact .inl (DgTo.below hx eH (yA _))
  exact .inr (LF h.own hg hx (by decide))
 obtain rfl:i=n:=by omega
 exact⟨u,by rw[List.getElem?_append_right (by omega),hl,Nat.sub_self];rfl,.inr (LF h.own hg hu (by decide))⟩
theorem QuoS.start (hu:dA w w.heap.size u b):QuoS w (w.alloc (.cells #[u] 22)) (.slice (some ⟨w.heap.size,0,none⟩) 1 1) b [u] 1:=by
 have hb:Below w.heap.size w (w.alloc (.cells #[u] 22)):=(yB _ w).alloc (yA _) _;refine⟨hb,xi _ _ _,fun i hi=>?_⟩;obtain rfl:i=0:=by omega
 exact⟨u,rfl,.inl (by rw[Nat.pow_zero,Nat.mul_one];exact DgTo.below hu hb (yA _))⟩
end
theorem Cv {K a b j:Nat} (ha:ag a≤K) (eH:0<b) (h:j=0∨b*2^(j-1)≤a):j≤24*K:=by
 rcases h with rfl|h
 ·exact yI _
 have h1:1*2^(j-1)≤b*2^(j-1):=Nat.mul_le_mul_right _ eH;have h2:=dj.2 ha;rw[qU] at h2;rw[Nat.one_mul] at h1
 have:=(Nat.pow_lt_pow_iff_right (a:=2) (by decide)).1 (Nat.lt_of_le_of_lt (yH h1 h) h2);omega
theorem qvV {K a b j:Nat} (ha:ag a≤K) (hb:ag b≤K) (h:j=0∨b*2^(j-1)≤a):ag (b*2^j)≤K+1:=by
 rcases j with _|j
 ·rw[Nat.pow_zero,Nat.mul_one];omega
 rcases h with h|h
 ·omega
 have h1:ag (b*2^j)≤K:=yH (cj h) ha;rw[show b*2^(j+1)=b*2^j+b*2^j by rw[yW,←yY];omega];exact s9 h1 h1
theorem Tt {a b i:Nat} (eH:0<b):(b*2^i≤a%(b*2^(i+1))→a/(b*2^i)=a/(b*2^(i+1))+a/(b*2^(i+1))+1∧a%(b*2^i)=a%(b*2^(i+1))-b*2^i)∧(a%(b*2^(i+1))<b*2^i→a/(b*2^i)=a/(b*2^(i+1))+a/(b*2^(i+1))∧a%(b*2^i)=a%(b*2^(i+1))):=by
 have hc:0<b*2^i:=Nat.mul_pos eH (Nat.two_pow_pos i);have e:b*2^(i+1)=b*2^i*2:=by rw[yW,yY]
 rw[e];generalize b*2^i=c at*;have h1:=YI a (c*2);have h2:=YJ a (show 0<c*2 by omega);generalize a/(c*2)=q at*;generalize a%(c*2)=r at*;have h3:c*2*q=c*(q+q):=by rw[yY,Nat.two_mul]
 constructor
 ·intro h
  have:=(Nat.div_mod_unique (a:=a) (b:=c) (d:=q+q+1) (c:=r-c) hc).2 ⟨by rw[yX c (q+q) 1,Nat.mul_one];omega,by omega⟩;exact this
 intro h
 have:=(Nat.div_mod_unique (a:=a) (b:=c) (d:=q+q) (c:=r) hc).2 ⟨by omega,h⟩;exact this
theorem N7 {a b j:Nat} (h:a<b*2^j):a/(b*2^(j+1))=0∧a%(b*2^(j+1))=a:=by
 have h1:b*2^j≤b*2^(j+1):=Nat.mul_le_mul_left _ (Nat.pow_le_pow_right (by decide) (YH _));exact⟨Nat.div_eq_of_lt (by omega),Nat.mod_eq_of_lt (by omega)⟩
theorem XV (w:World):dA w w.heap.size (.slice none 0 0) 0:=by
 unfold dA;rw[gH];exact jF (yJ w w.heap.size _ _)
theorem wN (v u:Value) (a b K:Nat) (w:World) (hv:dA w w.heap.size v a) (hu:dA w w.heap.size u b) (hK:K≤300000) (ha:ag a≤K) (hb:ag b≤K) (eH:0<b) :
  Calls Tryz.prog 186 #[v,u] w (tS w (a/b)):=by
 obtain⟨A1,c1,rfl,-,-,-⟩:=DgTo.open_ hv;obtain⟨A2,c2,rfl,-,-,-⟩:=DgTo.open_ hu;have HA:=zh hv;have vn:=zh (QuoS.start hu);have HK:Y0 (K≤300000):=hK;have HLa:=zh ha;have HLb:=zh hb;have Hb0:=zh eH;have WE:=zh HLa.o;have vvF:=zh HLb.o;generalize Xc:ag a=la at HA HLa⊢;have vv8:=zh Xc;generalize hlb:ag b=lb at vn HLb⊢;have HA1:Y0 (dA (w.alloc (.cells #[.slice A2 lb c2] 22)) w.heap.size (.slice A1 la c1) a):=DgTo.below HA.o vn.o.bel (yA _)
 clear hv hu hK ha hb eH Xc hlb;go_enter Tryz.func186,Tryz.ntmps186;go_wp2_with fail;go_loopg [5] (24*K+1) (fun gk rx wr=>∃j g cap vs,gk+j=24*K+1∧rx=.slice (some ⟨g,0,none⟩) (j+1) cap∧Y0 (QuoS w wr (.slice (some ⟨g,0,none⟩) (j+1) cap) b vs (j+1))∧Y0 (j=0∨b*2^(j-1)≤a))
 case atStart=>exact⟨0,_,_,_,rfl,rfl,vn,.inl rfl⟩
 clear vn HA1;obtain⟨j,g,cap,vs,hgk,rfl,HS,HP⟩:=hrel;have hj:=Cv WE.o Hb0.o HP.o;have HDl:=zh (qvV WE.o vvF.o HP.o);have hK:=HK.o;obtain⟨x,hx,hQ⟩:=HS.o.el j (Nat.lt_succ_self j);have y0:=(HS.o.own.cellAt j (by omega)).trans hx;have HX:=zh (hQ.at_ HS.o.bel.size);have HAr:Y0 (dA wr wr.heap.size (.slice A1 la c1) a):=(DgTo.below HA.o HS.o.bel (yA _)).mono HS.o.bel.size;obtain⟨A4,c4,rfl,-,-,-⟩:=DgTo.open_ HX.o
 obtain⟨n,hn⟩:∃n,n=j+1:=⟨_,rfl⟩;have Hn:=zh hn;rw[←hn] at HS⊢;have v0:IntKind.i64.wrap ((n:Int)-1)=(j:Int):=(yF _ (by omega)).trans (by omega);have v1:(j:Int)<(n:Int):=by omega
 have hnb:n≤7200001:=by omega
 have Hg:=zh hgk;clear hx hQ hn hgk;go_wp2_with fail;refine (lM _ _ (b*2^j) a _ HX.o HAr.o).mono ?_;rintro e w3 ⟨rfl,bM⟩;have nF:=zh (HS.o.below bM);have HX3:=zh (DgTo.grow HX.o bM);have zz:=zh (DgTo.grow HAr.o bM);have y3:=(bM.cell (p:=⟨g,j,none⟩) (HS.o.own.lt g rfl).2).trans y0;clear bM y0 HX HAr HS;by_cases ao:a<b*2^j
 ·rw[yD ao];have HQ0:=zh (N7 ao);have vxS:=zh WE.o;have HAs:Y0 (dA w3 w3.heap.size (.slice A1 la c1) (a%(b*2^n))):=by rw[Hn.o,HQ0.o.2];exact zz.o
  clear ao HP HDl HX3 y3 Hg;go_wp2_with fail;go_loopw [0,7,8] (fun va vq kx wr=>∃m:Nat,m≤n∧kx=.int .i64 ((m:Int)-1)∧Y0 (dA wr wr.heap.size va (a%(b*2^m)))∧Y0 (dA wr wr.heap.size vq (a/(b*2^m)))∧Y0 (QuoS w wr (.slice (some ⟨g,0,none⟩) n cap) b vs n)) (fun _ _ kx _=>(intOf kx+1).toNat)
  case atStart=>exact⟨n,yA _,by have:=Hn.o;go_num,HAs,by rw[Hn.o,HQ0.o.1];exact XV _,nF⟩
  clear zz nF HQ0;obtain⟨m,hm,rfl,HR,HQ,HS⟩:=hrel;rcases m with _|i
  ·rw[Nat.pow_zero,Nat.mul_one] at HQ;obtain⟨A7,c7,rfl,-,-,-⟩:=DgTo.open_ HQ.o;clear hm;go_wp2_with fail;refine (nV false _ (a/b) (ag (a/b)) _ HQ.o (yA _)).mono ?_;rintro e w9 ⟨v9,rfl,jz,D9⟩;obtain⟨A9,c9,rfl,-,-,-⟩:=DgTo.open_ D9;have Y7:=fun W=>mw (false&&decide (a/b≠0)) A9 (ag (a/b)) c9 W;rw[Bool.false_and] at Y7;have zR:=zh D9;have nG:=zh (HS.o.bel.trans (jz.mono HS.o.bel.size));clear D9 jz HS HQ HR
   go_wp2_with fail;go_ret;exact⟨_,rfl,nG.o,zR.o⟩
  have e0:((i+1:Nat):Int)-1=(i:Int):=by omega
  rw[e0];have aS:=zh (Tt (a:=a) (i:=i) Hb0.o);have HLq:Y0 (ag (a/(b*2^(i+1)))≤K):=yH (cj (YK _ _)) vxS.o;have HLr:Y0 (ag (a%(b*2^(i+1)))≤K):=yH (cj (Nat.mod_le _ _)) vxS.o;have hi:i<n:=by omega
  obtain⟨x,hx,hQ⟩:=HS.o.el i hi;have y0:=(HS.o.own.cellAt i (by omega)).trans hx;have HX:=zh (hQ.at_ HS.o.bel.size);obtain⟨A4,c4,rfl,-,-,-⟩:=DgTo.open_ HX.o;obtain⟨A5,c5,e5,-,-,-⟩:=DgTo.open_ HR.o;obtain⟨A6,c6,e6,-,-,-⟩:=DgTo.open_ HQ.o;rw[e5] at HR⊢;rw[e6] at HQ⊢;generalize a%(b*2^(i+1))=r at*;generalize a/(b*2^(i+1))=q at*;generalize hc:b*2^i=c at*;have HC:=zh hc;have i0:(i:Int)<(n:Int):=by omega
  have v2:IntKind.i64.wrap ((i:Int)-1)=(i:Int)-1:=yF _ (by omega);clear hx hQ e5 e6 e0 hc;go_wp2_with fail;refine (Ch _ _ q q _ HQ.o HQ.o (by have:=HLq.o;have:=HK.o;omega) (by have:=HLq.o;have:=HK.o;omega)).mono ?_;rintro e w4 ⟨v4,rfl,bU,hq4⟩;obtain⟨A7,c7,rfl,-,-,-⟩:=DgTo.open_ hq4;have HQ4:=zh hq4;have HR4:=zh (DgTo.grow HR.o bU);have HX4:=zh (DgTo.grow HX.o bU);have gP:=zh (HS.o.below bU);have y4:=(bU.cell (p:=⟨g,i,none⟩) (HS.o.own.lt g rfl).2).trans y0
  clear bU hq4 HQ HR HX HS y0;go_wp2_with fail;refine (lM _ _ c r _ HX4.o HR4.o).mono ?_;rintro e w5 ⟨rfl,aR⟩;have HQ5:=zh (DgTo.grow HQ4.o aR);have pb:=zh (DgTo.grow HR4.o aR);have HX5:=zh (DgTo.grow HX4.o aR);have dY:=zh (gP.o.below aR);have y5:=(aR.cell (p:=⟨g,i,none⟩) (gP.o.own.lt g rfl).2).trans y4;clear aR HQ4 HR4 HX4 gP y4;by_cases ao:r<c
  ·rw[yD ao];have HE:=zh (aS.o.2 ao);clear ao aS;go_wp2_with fail;go_roundw
   case rel=>exact⟨i,by omega,by go_num,by rw[HC.o,HE.o.2];exact pb,by rw[HC.o,HE.o.1];exact HQ5,dY⟩
   simp[intOf] <;> omega
  rw[yC ao];have uT:Y0 (c≤r):=Nat.not_lt.1 ao;have HE:=zh (aS.o.1 uT.o);clear ao aS;go_wp2_with fail;refine (rE _ _ r c _ pb.o HX5.o (by have:=HLr.o;have:=HK.o;omega) uT.o).mono ?_;rintro e w8 ⟨v8,rfl,aJ,Bz⟩;obtain⟨A8,c8,rfl,-,-,-⟩:=DgTo.open_ Bz;have qf:=zh Bz;have HQ8:=zh (DgTo.grow HQ5.o aJ);have dt:=zh (dY.o.below aJ);clear aJ Bz HX5 HQ5 dY pb y5;go_wp2_with fail;refine (nV false _ (r-c) (ag r) _ qf.o (cj (Nat.sub_le _ _))).mono ?_
  rintro e w9 ⟨v9,rfl,jz,D9⟩;obtain⟨A9,c9,rfl,-,-,-⟩:=DgTo.open_ D9;have Y7:=fun W=>mw (false&&decide (r-c≠0)) A9 (ag (r-c)) c9 W;rw[Bool.false_and] at Y7;have zR:=zh D9;have HQ9:=zh (DgTo.grow HQ8.o jz);have nP:=zh (dt.o.below jz);have lE:Below w9.heap.size w9 (w9.alloc (.cells #[.int .i64 1] 3)):=(yB _ w9).alloc (yA _) _;have HO1:=zh (XU w9);have HDa:=zh (DgTo.grow zR.o lE);have HQa:=zh (DgTo.grow HQ9.o lE)
  have GD:=zh (nP.o.below lE);clear D9 jz qf HQ8 dt lE zR HQ9 nP;go_wp2_with fail;refine (Ch _ _ (q+q) 1 _ HQa.o HO1.o (by have:=s9 HLq.o HLq.o;have:=HK.o;omega) (by rw[yr];decide)).mono ?_;rintro e w6 ⟨v6,rfl,ie,hq6⟩;have HQ6:=zh hq6;have vp:=zh (DgTo.grow HDa.o ie);have GF:=zh (GD.o.below ie);clear ie hq6 HDa HQa GD HO1;go_wp2_with fail;go_roundw
  case rel=>exact⟨i,by omega,by go_num,by rw[HC.o,HE.o.2];exact vp,by rw[HC.o,HE.o.1];exact HQ6,GF⟩
  simp[intOf] <;> omega
 rw[yC ao];have uT:Y0 (b*2^j≤a):=Nat.not_lt.1 ao;have HE:Y0 (b*2^j+b*2^j=b*2^(j+1)):=by unfold Y0;rw[Nat.pow_succ,←Nat.mul_assoc];omega
 clear ao;go_wp2_with fail;refine (Lr _ _ (b*2^j) (b*2^j) _ HX3.o HX3.o (by have:=HDl.o;omega) (by have:=HDl.o;omega)).mono ?_;rintro e w4 ⟨v4,rfl,bU,hO4⟩;rw[HE.o] at hO4;have gP:=zh (nF.o.below bU);rw[Hn.o] at gP;have tP:=zh (NG hO4 nF.o.bel.size);obtain⟨A6,c6,e6⟩:=lN hO4;rw[e6] at tP⊢;generalize hl6:ag (b*2^(j+1))=l6 at tP⊢;have hO:=gP.o.own;have de:=gP.o.bel.size;rw[←Hn.o] at hO;have Pd:Y0 (∀v' w1,w1.ownsRow w.heap.size 22 1 v' (n+1) (vs++[.slice A6 l6 c6])→w4.grownBy w1 (Value.slice (some ⟨g,0,none⟩) n cap).ownBlock→QuoS w w1 v' b (vs++[.slice A6 l6 c6]) (n+1)):=fun v' w1 ho hg=>by
  have hh:=gP.o.push (u:=.slice A6 l6 c6) (by rw[hl6];exact tP.o) (by rw[←Hn.o];exact ho) (by exact hg);rw[←Hn.o] at hh;exact hh
 clear e6 hl6 bU hO4 nF HX3 zz y3;go_wp2_with (at_builtin;refine dQ _ rfl (.tmp 26) (.tmp 30) 117 rfl w.heap.size 22 NW Tryz.underlying117 rfl _ n _ rfl hO (.slice A6 l6 c6) rfl rfl (by unfold maxLen;omega) (by omega) de ?_;intro g4 vvu w5 bC bz xW vi;have dY:=zh (Pd.o _ _ bC bz);clear bC bz vi xW);clear hO Pd;go_roundg (24*K+1-(j+1))
 case rel=>exact⟨j+1,g4,vvu,_,by have:=Hg.o;have:=Cv WE.o Hb0.o (.inr (by rw[Nat.add_sub_cancel];exact uT.o));omega,by rw[Hn.o],by rw[Hn.o] at dY;exact dY,.inr (by rw[Nat.add_sub_cancel];exact uT.o)⟩
 have:=Hg.o;have:=Cv WE.o Hb0.o (.inr (by rw[Nat.add_sub_cancel];exact uT.o));omega
