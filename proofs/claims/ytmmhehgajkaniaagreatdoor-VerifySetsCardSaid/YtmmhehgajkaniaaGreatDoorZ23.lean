/- Lemmas. -/
import Derived.Test.YtmmhehgajkaniaaGreatDoorZ22
namespace Go.Proofs.YtmmhehgajkaniaaGreatDoor
set_option maxRecDepth 100000
set_option maxHeartbeats 40000000
open Go.RowKit Go.Shelf
def eD (w:World) (q:Rat) (K:Nat) (e:Ending) (w':World):Prop:=∃v,e=.returned v∧Below w.heap.size w w'∧ExqAt w' w'.heap.size v q K
theorem bS {w:World} {B:Nat} {x:Value} {q:Rat} {K:Nat} (h:ExqAt w B x q K):∃s1 A1 l1 c1 s2 A2 l2 c2 N D,x=.agg (zD s1 A1 l1 c1 s2 A2 l2 c2)∧BigAt w B s1 (.slice A1 l1 c1) N∧BigAt w B s2 (.slice A2 l2 c2) D∧0<D∧ag N.natAbs≤K∧ag D.natAbs≤K∧q=Rat.divInt N D:=by
 obtain⟨s1,v1,s2,v2,N,D,rfl,h1,h2,h3⟩:=h;obtain⟨A1,c1,rfl,-⟩:=DgTo.open_ h1.2;obtain⟨A2,c2,rfl,-⟩:=DgTo.open_ h2.2;exact⟨s1,A1,_,c1,s2,A2,_,c2,N,D,rfl,h1,h2,h3⟩
theorem Zg {f:FuncId} {args:Array Value} {w:World} {q:Rat} {K:Nat} (h:Calls Tryz.prog f args w (eD w q K)):Calls Tryz.prog f args w fun e w'=>∃v,e=.returned v∧Below w.heap.size w w'∧(jU q K).σ v∧(jU q K).φ v w':=h.mono fun e w' h=>by
 obtain⟨v,rfl,hb,h1⟩:=h;obtain⟨s1,A1,l1,c1,s2,A2,l2,c2,N,D,rfl,h2⟩:=bS h1;exact⟨_,rfl,hb,⟨s1,A1,l1,c1,s2,A2,l2,c2,rfl⟩,h1⟩
theorem qql (s:Bool) (v:Value) (n:Int) (w:World) (hv:BigAt w w.heap.size s v n):Calls Tryz.prog 184 #[.agg #[.bool s,v]] w (sN w (-n)):=(qj4 s v n w hv).mono fun e w' h=>by
 obtain⟨rfl,hb⟩:=h;have h2:=DgTo.grow hv.2 hb;exact⟨_,v,rfl,hb,rfl,by rw[Int.natAbs_neg];exact h2⟩
theorem O6 {m n:Int} {K:Nat} (h1:ag m.natAbs≤K) (h2:ag n.natAbs≤K):ag (m+n).natAbs≤K+1:=yH (cj (Int.natAbs_add_le m n)) (s9 h1 h2)
theorem Z4 {N D:Int} (hD:0<D) (h:0<Rat.divInt N D):0<N:=by
 obtain⟨h1,h2⟩:=Ge (N:=N) hD;rcases Int.lt_trichotomy N 0 with h3|h3|h3
 ·exact absurd h (Rat.not_lt.2 (Rat.le_of_lt (h1.2 h3)))
 ·rw[h2.2 h3] at h;exact absurd h (Rat.lt_irrefl)
 exact h3
theorem jL {w w8:World} {R:Nat} (hR:w.heap.size≤R) (hb:Below w.heap.size w w8) (hD:Blk w8 R 193 (zD false none 0 0 false none 0 0)) {s1 s2:Bool} {v1 v2:Value} {q:Rat} {K:Nat} (hv:ExqAt w8 w8.heap.size (.agg #[.bool s1,v1,.bool s2,v2]) q K) :
  Below w.heap.size w ((((w8.setCell ⟨R,0,none⟩ (.bool s1)).setCell ⟨R,1,none⟩ v1).setCell ⟨R,2,none⟩ (.bool s2)).setCell ⟨R,3,none⟩ v2)∧ExqAt ((((w8.setCell ⟨R,0,none⟩ (.bool s1)).setCell ⟨R,1,none⟩ v1).setCell ⟨R,2,none⟩ (.bool s2)).setCell ⟨R,3,none⟩ v2) ((((w8.setCell ⟨R,0,none⟩ (.bool s1)).setCell ⟨R,1,none⟩ v1).setCell ⟨R,2,none⟩ (.bool s2)).setCell ⟨R,3,none⟩ v2).heap.size (.agg #[.bool s1,v1,.bool s2,v2]) q K:=by
 have h1:=hD.set_ 0 (.bool s1);have h2:=h1.set_ 1 v1;have h3:=h2.set_ 2 (.bool s2);have z0:=hD.cell 0;have z1:=h1.cell 1;have z2:=h2.cell 2;have z3:=h3.cell 3;simp only[aG,aD] at z0;have hU:∀ {v:Value} {x k:Nat},DgTo w8 w8.heap.size v x k→DgTo ((((w8.setCell ⟨R,0,none⟩ (.bool s1)).setCell ⟨R,1,none⟩ v1).setCell ⟨R,2,none⟩ (.bool s2)).setCell ⟨R,3,none⟩ v2) ((((w8.setCell ⟨R,0,none⟩ (.bool s1)).setCell ⟨R,1,none⟩ v1).setCell ⟨R,2,none⟩ (.bool s2)).setCell ⟨R,3,none⟩ v2).heap.size v x k:=fun h=>by
  have g1:=DgTo.set h z0 (fun z=>by simp) (.bool s1);have g2:=DgTo.set g1 (u:=.slice none 0 0) z1 (fun z=>by simp) v1;have g3:=DgTo.set g2 (u:=.bool false) z2 (fun z=>by simp) (.bool s2);have g4:=DgTo.set g3 (u:=.slice none 0 0) z3 (fun z=>by simp) v2;exact DgTo.mono g4 (by simp[World.setCell])
 obtain⟨_,_,_,_,N,D,e,h4,h5,h6⟩:=hv;cases e;exact⟨(((hb.setCell (p:=⟨R,0,none⟩) hR _).setCell (p:=⟨R,1,none⟩) hR _).setCell (p:=⟨R,2,none⟩) hR _).setCell (p:=⟨R,3,none⟩) hR _,_,_,_,_,N,D,rfl,⟨h4.1,hU h4.2⟩,⟨h5.1,hU h5.2⟩,h6⟩
theorem iX (v u:Value) (x y:Rat) (K M:Nat) (w:World) (hv:ExqAt w w.heap.size v x K) (hu:ExqAt w w.heap.size u y M) (hK:K+M+1≤400000) :
  Calls Tryz.prog 144 #[v,u] w (eD w (x+y) (K+M+1)):=by
 obtain⟨kU,kW,kQ,kS,kT,kV,kP,kR,N,D,rfl,cB,dc,hD,sR,kC,Oa⟩:=bS hv;obtain⟨qv,qw,qt,qu,pN,pO,pL,pM,N2,E,rfl,nB,rS,hE,zN,lG,Pt⟩:=bS hu;have HEq:Y0 (x+y=Rat.divInt (N*E+N2*D) (D*E)):=by rw[Oa,Pt];exact Vp hD hE
 have HP:Y0 (0<D*E):=Int.mul_pos hD hE;have HM1:Y0 (ag (N*E).natAbs≤K+M):=by unfold Y0;rw[Int.natAbs_mul];exact im sR lG
 have DK:Y0 (ag (N2*D).natAbs≤K+M):=by unfold Y0;rw[Int.natAbs_mul,Nat.mul_comm];exact im kC zN
 have zv:Y0 (ag (N*E+N2*D).natAbs≤K+M+1):=O6 HM1.o DK.o;have iw:Y0 (ag (D*E).natAbs≤K+M+1):=by unfold Y0;rw[Int.natAbs_mul];exact Nat.le_succ_of_le (im kC lG)
 have zP:=zh cB;have kF:=zh dc;have Ar:=zh nB;have rh:=zh rS;have HK:=zh hK;have zx:=zh sR;have sL:=zh kC;have vt:=zh zN;have tR:=zh lG;have HV:=zh hv;have HU:=zh hu;have pc:=zh (bV w 193 193 193 (zD kU kW kQ kS kT kV kP kR) (zD qv qw qt qu pN pO pL pM) (zD false none 0 0 false none 0 0));clear hv hu cB dc nB rS sR kC zN lG hK hD hE Oa Pt;go_enter Tryz.func144,Tryz.ntmps144;go_wp2_with fail;generalize ((w.alloc (.cells (zD kU kW kQ kS kT kV kP kR) 193)).alloc (.cells (zD qv qw qt qu pN pO pL pM) 193)).alloc (.cells (zD false none 0 0 false none 0 0) 193)=W3 at*
 obtain⟨B1,B2,B3,bp⟩:=pc.o;have gL:=B1.cell 0;have jD:=B1.cell 1;have pP:=B1.cell 2;have qz:=B1.cell 3;have iZ:=B2.cell 0;have iz:=B2.cell 1;have qy:=B2.cell 2;have qx:=B2.cell 3;simp only[aG,aH,aD] at gL jD pP qz iZ iz qy qx;have tW:=YL gL;have vA:=YL jD;have GL:=YL pP;have GK:=YL qz;have zM:=YL iZ;have vz:=YL iz;have Ir:=YL qy;have Iq:=YL qx;have B3:=zh B3;have bp:=zh bp;clear pc B1 B2 gL jD pP qz iZ iz qy qx
 refine af 17 (fun i=>if i=4 then some (Hu (N*E)) else if i=9 then some (Hu (N2*D)) else if i=10 then some (Hu (N*E+N2*D)) else if i=15 then some (Hu (D*E)) else none) (by kernel_rfl) (by kernel_rfl) ?_;simp only[aM,aP,aN,aO];refine zw 4 ?_;simp only[aM,aP,aN,aO]
 repeat (go_big_quiet_step (fail))
 refine YE ?_;refine ae rfl rfl ?_ ?_
 ·intro w1 ak hk;have hb:=bp.o.trans (ak.mono bp.o.size);have hC:=dV (gu _ _ _ _ N E w1 (zP.o.grow hb) (rh.o.grow hb) (by have:=zx.o;have:=HK.o;omega) (by have:=tR.o;have:=HK.o;omega));exact zc hC
 rintro _ ⟨IC,ID,IB,rfl⟩;simp only[Act.put,aC,aB,aA];refine zw 4 ?_;simp only[aM,aP,aN,aO]
 repeat (go_big_quiet_step (fail))
 refine YE ?_;refine ae rfl rfl ?_ ?_
 ·intro w1 ak hk;have hb:=bp.o.trans (ak.mono bp.o.size);have hC:=dV (gu _ _ _ _ N2 D w1 (Ar.o.grow hb) (kF.o.grow hb) (by have:=vt.o;have:=HK.o;omega) (by have:=sL.o;have:=HK.o;omega));exact zc hC
 rintro _ ⟨qm,qo,ql,rfl⟩;simp only[Act.put,aC,aB,aA];refine ae rfl rfl ?_ ?_
 ·intro w1 ak hk;have hb:=bp.o.trans (ak.mono bp.o.size);obtain⟨_,_,e9,h9⟩:∃s v,Value.agg #[.bool IC,.slice ID (ag (N*E).natAbs) IB]=.agg #[.bool s,v]∧BigAt w1 w1.heap.size s v (N*E):=hk 9 (by decide);cases e9;obtain⟨_,_,e14,P9⟩:∃s v,Value.agg #[.bool qm,.slice qo (ag (N2*D).natAbs) ql]=.agg #[.bool s,v]∧BigAt w1 w1.heap.size s v (N2*D):=hk 14 (by decide);cases e14;have hC:=dV (qj3 _ _ _ _ (N*E) (N2*D) w1 h9 P9 (by have:=HM1.o;have:=HK.o;omega) (by have:=DK.o;have:=HK.o;omega))
  exact zc hC
 rintro _ ⟨Sv,Sw,Ss,rfl⟩;simp only[Act.put,aC,aB,aA];refine zw 4 ?_;simp only[aM,aP,aN,aO]
 repeat (go_big_quiet_step (fail))
 refine YE ?_;refine ae rfl rfl ?_ ?_
 ·intro w1 ak hk;have hb:=bp.o.trans (ak.mono bp.o.size);have hC:=dV (gu _ _ _ _ D E w1 (kF.o.grow hb) (rh.o.grow hb) (by have:=sL.o;have:=HK.o;omega) (by have:=tR.o;have:=HK.o;omega));exact zc hC
 rintro _ ⟨RN,RO,RL,rfl⟩;simp only[Act.put,aC,aB,aA];refine zw 1 ?_;simp only[aM,aP,aN,aO]
 repeat (go_big_quiet_step (fail))
 refine YE ?_;refine Zc ?_;intro w8 aJ hF;obtain⟨_,_,e1,h1⟩:∃s v,Value.agg #[.bool Sv,.slice Sw (ag (N*E+N2*D).natAbs) Ss]=.agg #[.bool s,v]∧BigAt w8 w8.heap.size s v (N*E+N2*D):=hF 15;cases e1;obtain⟨_,_,e2,h2⟩:∃s v,Value.agg #[.bool RN,.slice RO (ag (D*E).natAbs) RL]=.agg #[.bool s,v]∧BigAt w8 w8.heap.size s v (D*E):=hF 20;cases e2;have HL:Y0 (ExqAt w8 w8.heap.size (.agg (zD Sv Sw (ag (N*E+N2*D).natAbs) Ss RN RO (ag (D*E).natAbs) RL)) (x+y) (K+M+1)):=⟨_,_,_,_,N*E+N2*D,D*E,rfl,h1,h2,HP.o,zv.o,iw.o,HEq.o⟩
 clear h1 h2;have bj:=zh (B3.o.below aJ B3.o.lt);have ep:=zh (bp.o.trans (aJ.mono bp.o.size));have eu:=zh (jL (w:=w) (by omega) ep.o bj.o HL.o);have q0:=bj.o.cell 0;have q1:=bj.o.cell 1;have q2:=bj.o.cell 2;have q3:=bj.o.cell 3;have f0:=bj.o.frozen 0;have f1:=bj.o.frozen 1;have f2:=bj.o.frozen 2;have f3:=bj.o.frozen 3;simp only[aG,aH,aD] at q0 q1 q2 q3;clear hF aJ B3 bp tW vA GL GK zM vz Ir Iq;go_wp2_with fail
 refine YF (v:=.agg (zD Sv Sw (ag (N*E+N2*D).natAbs) Ss RN RO (ag (D*E).natAbs) RL)) (by simp[results,Tryz.results144,go_sem,q0,q1,q2,q3]) rfl ?_;exact⟨_,rfl,eu.o.1,eu.o.2⟩
theorem kM (v u:Value) (x y:Rat) (K M:Nat) (w:World) (hv:ExqAt w w.heap.size v x K) (hu:ExqAt w w.heap.size u y M) (hK:K+M+1≤400000) :
  Calls Tryz.prog 147 #[v,u] w (eD w (x-y) (K+M+1)):=by
 obtain⟨kU,kW,kQ,kS,kT,kV,kP,kR,N,D,rfl,cB,dc,hD,sR,kC,Oa⟩:=bS hv;obtain⟨qv,qw,qt,qu,pN,pO,pL,pM,N2,E,rfl,nB,rS,hE,zN,lG,Pt⟩:=bS hu;have HE:Y0 (x + -y=x-y):=(Rat.sub_eq_add_neg x y).symm;have HP:Y0 (0<E):=hE;have HNa:Y0 (ag (-N2).natAbs≤M):=by unfold Y0;rw[Int.natAbs_neg];exact zN
 have HEq:Y0 (-y=Rat.divInt (-N2) E):=by unfold Y0;rw[Pt,Rat.neg_divInt]
 have zP:=zh cB;have kF:=zh dc;have Ar:=zh nB;have rh:=zh rS;have HK:=zh hK;have zx:=zh sR;have sL:=zh kC;have vt:=zh zN;have tR:=zh lG;have HV:=zh hv;have HU:=zh hu;have pc:=zh (bV w 193 193 193 (zD kU kW kQ kS kT kV kP kR) (zD qv qw qt qu pN pO pL pM) (zD false none 0 0 false none 0 0));clear hv hu cB dc nB rS sR kC zN lG hK hD hE Oa Pt;go_enter Tryz.func147,Tryz.ntmps147;go_wp2_with fail;generalize ((w.alloc (.cells (zD kU kW kQ kS kT kV kP kR) 193)).alloc (.cells (zD qv qw qt qu pN pO pL pM) 193)).alloc (.cells (zD false none 0 0 false none 0 0) 193)=W3 at*
 obtain⟨B1,B2,B3,bp⟩:=pc.o;have gL:=B1.cell 0;have jD:=B1.cell 1;have pP:=B1.cell 2;have qz:=B1.cell 3;have iZ:=B2.cell 0;have iz:=B2.cell 1;have qy:=B2.cell 2;have qx:=B2.cell 3;simp only[aG,aH,aD] at gL jD pP qz iZ iz qy qx;have tW:=YL gL;have vA:=YL jD;have GL:=YL pP;have GK:=YL qz;have zM:=YL iZ;have vz:=YL iz;have Ir:=YL qy;have Iq:=YL qx;have B3:=zh B3;have bp:=zh bp;clear pc B1 B2 gL jD pP qz iZ iz qy qx
 refine af 8 (fun i=>if i=3 then some (Hu (-N2)) else if i=7 then some (jU (x-y) (K+M+1)) else none) (by kernel_rfl) (by kernel_rfl) ?_;simp only[aM,aP,aN,aO];refine zw 3 ?_;simp only[aM,aP,aN,aO]
 repeat (go_big_quiet_step (fail))
 refine YE ?_;refine ae rfl rfl ?_ ?_
 ·intro w1 ak hk;have hb:=bp.o.trans (ak.mono bp.o.size);have hC:=dV (qql _ _ _ w1 (Ar.o.grow hb));exact zc hC
 rintro _ ⟨r8b,r8A,r8c,rfl⟩;simp only[Act.put,aC,aB,aA];refine zw 3 ?_;simp only[aM,aP,aN,aO]
 repeat (go_big_quiet_step (fail))
 refine YE ?_;refine ae rfl rfl ?_ ?_
 ·intro w1 ak hk;have hb:=bp.o.trans (ak.mono bp.o.size);obtain⟨_,_,e8,h8⟩:∃s v,Value.agg #[.bool r8b,.slice r8A (ag (-N2).natAbs) r8c]=.agg #[.bool s,v]∧BigAt w1 w1.heap.size s v (-N2):=hk 11 (by decide) 8 (by decide);cases e8;have hE:ExqAt w1 w1.heap.size (.agg (zD r8b r8A (ag (-N2).natAbs) r8c pN pO pL pM)) (-y) M:=⟨_,_,_,_,-N2,E,rfl,h8,rh.o.grow hb,HP.o,HNa.o,tR.o,HEq.o⟩;have hC:=Zg (HE.o▸iX _ _ x (-y) K M w1 (HV.o.grow hb) hE HK.o)
  exact zc hC
 rintro _ ⟨Fl,Fp,Fg,Fi,Fj,Fo,Ff,Fh,rfl⟩;simp only[Act.put,aC,aB,aA];refine Zc ?_;intro w8 aJ hF;have HL:Y0 (ExqAt w8 w8.heap.size (.agg (zD Fl Fp Fg Fi Fj Fo Ff Fh)) (x-y) (K+M+1)):=hF 12;have bj:=zh (B3.o.below aJ B3.o.lt);have ep:=zh (bp.o.trans (aJ.mono bp.o.size));have eu:=zh (jL (w:=w) (by omega) ep.o bj.o HL.o);have q0:=bj.o.cell 0;have q1:=bj.o.cell 1;have q2:=bj.o.cell 2;have q3:=bj.o.cell 3
 have f0:=bj.o.frozen 0;have f1:=bj.o.frozen 1;have f2:=bj.o.frozen 2;have f3:=bj.o.frozen 3;simp only[aG,aH,aD] at q0 q1 q2 q3;clear hF aJ B3 bp tW vA GL GK zM vz Ir Iq;go_wp2_with fail;refine YF (v:=.agg (zD Fl Fp Fg Fi Fj Fo Ff Fh)) (by simp[results,Tryz.results147,go_sem,q0,q1,q2,q3]) rfl ?_;exact⟨_,rfl,eu.o.1,eu.o.2⟩
theorem rF (v u:Value) (x y:Rat) (K M:Nat) (w:World) (hv:ExqAt w w.heap.size v x K) (hu:ExqAt w w.heap.size u y M) (hK:K+M+1≤400000) :
  Calls Tryz.prog 146 #[v,u] w (eD w (x*y) (K+M)):=by
 obtain⟨kU,kW,kQ,kS,kT,kV,kP,kR,N,D,rfl,cB,dc,hD,sR,kC,Oa⟩:=bS hv;obtain⟨qv,qw,qt,qu,pN,pO,pL,pM,N2,E,rfl,nB,rS,hE,zN,lG,Pt⟩:=bS hu;have HEq:Y0 (x*y=Rat.divInt (N*N2) (D*E)):=by rw[Oa,Pt];exact Ov hD hE
 have HP:Y0 (0<D*E):=Int.mul_pos hD hE;have zv:Y0 (ag (N*N2).natAbs≤K+M):=by unfold Y0;rw[Int.natAbs_mul];exact im sR zN
 have iw:Y0 (ag (D*E).natAbs≤K+M):=by unfold Y0;rw[Int.natAbs_mul];exact im kC lG
 have zP:=zh cB;have kF:=zh dc;have Ar:=zh nB;have rh:=zh rS;have HK:=zh hK;have zx:=zh sR;have sL:=zh kC;have vt:=zh zN;have tR:=zh lG;have HV:=zh hv;have HU:=zh hu;have pc:=zh (bV w 193 193 193 (zD kU kW kQ kS kT kV kP kR) (zD qv qw qt qu pN pO pL pM) (zD false none 0 0 false none 0 0));clear hv hu cB dc nB rS sR kC zN lG hK hD hE Oa Pt;go_enter Tryz.func146,Tryz.ntmps146;go_wp2_with fail;generalize ((w.alloc (.cells (zD kU kW kQ kS kT kV kP kR) 193)).alloc (.cells (zD qv qw qt qu pN pO pL pM) 193)).alloc (.cells (zD false none 0 0 false none 0 0) 193)=W3 at*
 obtain⟨B1,B2,B3,bp⟩:=pc.o;have gL:=B1.cell 0;have jD:=B1.cell 1;have pP:=B1.cell 2;have qz:=B1.cell 3;have iZ:=B2.cell 0;have iz:=B2.cell 1;have qy:=B2.cell 2;have qx:=B2.cell 3;simp only[aG,aH,aD] at gL jD pP qz iZ iz qy qx;have tW:=YL gL;have vA:=YL jD;have GL:=YL pP;have GK:=YL qz;have zM:=YL iZ;have vz:=YL iz;have Ir:=YL qy;have Iq:=YL qx;have B3:=zh B3;have bp:=zh bp;clear pc B1 B2 gL jD pP qz iZ iz qy qx
 refine af 11 (fun i=>if i=4 then some (Hu (N*N2)) else if i=9 then some (Hu (D*E)) else none) (by kernel_rfl) (by kernel_rfl) ?_;simp only[aM,aP,aN,aO];refine zw 4 ?_;simp only[aM,aP,aN,aO]
 repeat (go_big_quiet_step (fail))
 refine YE ?_;refine ae rfl rfl ?_ ?_
 ·intro w1 ak hk;have hb:=bp.o.trans (ak.mono bp.o.size);have hC:=dV (gu _ _ _ _ N N2 w1 (zP.o.grow hb) (Ar.o.grow hb) (by have:=zx.o;have:=HK.o;omega) (by have:=vt.o;have:=HK.o;omega));exact zc hC
 rintro _ ⟨IC,ID,IB,rfl⟩;simp only[Act.put,aC,aB,aA];refine zw 4 ?_;simp only[aM,aP,aN,aO]
 repeat (go_big_quiet_step (fail))
 refine YE ?_;refine ae rfl rfl ?_ ?_
 ·intro w1 ak hk;have hb:=bp.o.trans (ak.mono bp.o.size);have hC:=dV (gu _ _ _ _ D E w1 (kF.o.grow hb) (rh.o.grow hb) (by have:=sL.o;have:=HK.o;omega) (by have:=tR.o;have:=HK.o;omega));exact zc hC
 rintro _ ⟨qm,qo,ql,rfl⟩;simp only[Act.put,aC,aB,aA];refine zw 1 ?_;simp only[aM,aP,aN,aO]
 repeat (go_big_quiet_step (fail))
 refine YE ?_;refine Zc ?_;intro w8 aJ hF;obtain⟨_,_,e1,h1⟩:∃s v,Value.agg #[.bool IC,.slice ID (ag (N*N2).natAbs) IB]=.agg #[.bool s,v]∧BigAt w8 w8.heap.size s v (N*N2):=hF 9;cases e1;obtain⟨_,_,e2,h2⟩:∃s v,Value.agg #[.bool qm,.slice qo (ag (D*E).natAbs) ql]=.agg #[.bool s,v]∧BigAt w8 w8.heap.size s v (D*E):=hF 14;cases e2;have HL:Y0 (ExqAt w8 w8.heap.size (.agg (zD IC ID (ag (N*N2).natAbs) IB qm qo (ag (D*E).natAbs) ql)) (x*y) (K+M)):=⟨_,_,_,_,N*N2,D*E,rfl,h1,h2,HP.o,zv.o,iw.o,HEq.o⟩
 clear h1 h2;have bj:=zh (B3.o.below aJ B3.o.lt);have ep:=zh (bp.o.trans (aJ.mono bp.o.size));have eu:=zh (jL (w:=w) (by omega) ep.o bj.o HL.o);have q0:=bj.o.cell 0;have q1:=bj.o.cell 1;have q2:=bj.o.cell 2;have q3:=bj.o.cell 3;have f0:=bj.o.frozen 0;have f1:=bj.o.frozen 1;have f2:=bj.o.frozen 2;have f3:=bj.o.frozen 3;simp only[aG,aH,aD] at q0 q1 q2 q3;clear hF aJ B3 bp tW vA GL GK zM vz Ir Iq;go_wp2_with fail
 refine YF (v:=.agg (zD IC ID (ag (N*N2).natAbs) IB qm qo (ag (D*E).natAbs) ql)) (by simp[results,Tryz.results146,go_sem,q0,q1,q2,q3]) rfl ?_;exact⟨_,rfl,eu.o.1,eu.o.2⟩
theorem Ls (v u:Value) (x y:Rat) (K M:Nat) (w:World) (hv:ExqAt w w.heap.size v x K) (hu:ExqAt w w.heap.size u y M) (hy0:0<y) (hK:K+M+1≤400000) :
  Calls Tryz.prog 181 #[v,u] w (eD w (x/y) (K+M)):=by
 obtain⟨kU,kW,kQ,kS,kT,kV,kP,kR,N,D,rfl,cB,dc,hD,sR,kC,Oa⟩:=bS hv;obtain⟨qv,qw,qt,qu,pN,pO,pL,pM,N2,E,rfl,nB,rS,hE,zN,lG,Pt⟩:=bS hu;have hM0:0<N2:=Z4 hE (Pt▸hy0);have HEq:Y0 (x/y=Rat.divInt (N*E) (D*N2)):=by rw[Oa,Pt];exact Vq hD hE hM0
 have HP:Y0 (0<D*N2):=Int.mul_pos hD hM0;have zv:Y0 (ag (N*E).natAbs≤K+M):=by unfold Y0;rw[Int.natAbs_mul];exact im sR lG
 have iw:Y0 (ag (D*N2).natAbs≤K+M):=by unfold Y0;rw[Int.natAbs_mul];exact im kC zN
 have zP:=zh cB;have kF:=zh dc;have Ar:=zh nB;have rh:=zh rS;have HK:=zh hK;have zx:=zh sR;have sL:=zh kC;have vt:=zh zN;have tR:=zh lG;have HV:=zh hv;have HU:=zh hu;have pc:=zh (bV w 193 193 193 (zD kU kW kQ kS kT kV kP kR) (zD qv qw qt qu pN pO pL pM) (zD false none 0 0 false none 0 0));clear hM0 hy0 hv hu cB dc nB rS sR kC zN lG hK hD hE Oa Pt;go_enter Tryz.func181,Tryz.ntmps181;go_wp2_with fail
 generalize ((w.alloc (.cells (zD kU kW kQ kS kT kV kP kR) 193)).alloc (.cells (zD qv qw qt qu pN pO pL pM) 193)).alloc (.cells (zD false none 0 0 false none 0 0) 193)=W3 at*;obtain⟨B1,B2,B3,bp⟩:=pc.o;have gL:=B1.cell 0;have jD:=B1.cell 1;have pP:=B1.cell 2;have qz:=B1.cell 3;have iZ:=B2.cell 0;have iz:=B2.cell 1;have qy:=B2.cell 2;have qx:=B2.cell 3;simp only[aG,aH,aD] at gL jD pP qz iZ iz qy qx;have tW:=YL gL
 have vA:=YL jD;have GL:=YL pP;have GK:=YL qz;have zM:=YL iZ;have vz:=YL iz;have Ir:=YL qy;have Iq:=YL qx;have B3:=zh B3;have bp:=zh bp;clear pc B1 B2 gL jD pP qz iZ iz qy qx;refine af 11 (fun i=>if i=4 then some (Hu (N*E)) else if i=9 then some (Hu (D*N2)) else none) (by kernel_rfl) (by kernel_rfl) ?_;simp only[aM,aP,aN,aO];refine zw 4 ?_;simp only[aM,aP,aN,aO]
 repeat (go_big_quiet_step (fail))
 refine YE ?_;refine ae rfl rfl ?_ ?_
 ·intro w1 ak hk;have hb:=bp.o.trans (ak.mono bp.o.size);have hC:=dV (gu _ _ _ _ N E w1 (zP.o.grow hb) (rh.o.grow hb) (by have:=zx.o;have:=HK.o;omega) (by have:=tR.o;have:=HK.o;omega));exact zc hC
 rintro _ ⟨IC,ID,IB,rfl⟩;simp only[Act.put,aC,aB,aA];refine zw 4 ?_;simp only[aM,aP,aN,aO]
 repeat (go_big_quiet_step (fail))
 refine YE ?_;refine ae rfl rfl ?_ ?_
 ·intro w1 ak hk;have hb:=bp.o.trans (ak.mono bp.o.size);have hC:=dV (gu _ _ _ _ D N2 w1 (kF.o.grow hb) (Ar.o.grow hb) (by have:=sL.o;have:=HK.o;omega) (by have:=vt.o;have:=HK.o;omega));exact zc hC
 rintro _ ⟨qm,qo,ql,rfl⟩;simp only[Act.put,aC,aB,aA];refine zw 1 ?_;simp only[aM,aP,aN,aO]
 repeat (go_big_quiet_step (fail))
 refine YE ?_;refine Zc ?_;intro w8 aJ hF;obtain⟨_,_,e1,h1⟩:∃s v,Value.agg #[.bool IC,.slice ID (ag (N*E).natAbs) IB]=.agg #[.bool s,v]∧BigAt w8 w8.heap.size s v (N*E):=hF 9;cases e1;obtain⟨_,_,e2,h2⟩:∃s v,Value.agg #[.bool qm,.slice qo (ag (D*N2).natAbs) ql]=.agg #[.bool s,v]∧BigAt w8 w8.heap.size s v (D*N2):=hF 14;cases e2;have HL:Y0 (ExqAt w8 w8.heap.size (.agg (zD IC ID (ag (N*E).natAbs) IB qm qo (ag (D*N2).natAbs) ql)) (x/y) (K+M)):=⟨_,_,_,_,N*E,D*N2,rfl,h1,h2,HP.o,zv.o,iw.o,HEq.o⟩
 clear h1 h2;have bj:=zh (B3.o.below aJ B3.o.lt);have ep:=zh (bp.o.trans (aJ.mono bp.o.size));have eu:=zh (jL (w:=w) (by omega) ep.o bj.o HL.o);have q0:=bj.o.cell 0;have q1:=bj.o.cell 1;have q2:=bj.o.cell 2;have q3:=bj.o.cell 3;have f0:=bj.o.frozen 0;have f1:=bj.o.frozen 1;have f2:=bj.o.frozen 2;have f3:=bj.o.frozen 3;simp only[aG,aH,aD] at q0 q1 q2 q3;clear hF aJ B3 bp tW vA GL GK zM vz Ir Iq;go_wp2_with fail
 refine YF (v:=.agg (zD IC ID (ag (N*E).natAbs) IB qm qo (ag (D*N2).natAbs) ql)) (by simp[results,Tryz.results181,go_sem,q0,q1,q2,q3]) rfl ?_;exact⟨_,rfl,eu.o.1,eu.o.2⟩
theorem qj6 (v u:Value) (x y:Rat) (K M:Nat) (w:World) (hv:ExqAt w w.heap.size v x K) (hu:ExqAt w w.heap.size u y M) (hK:K+M+1≤400000) :
  Calls Tryz.prog 175 #[v,u] w fun e w'=>e=.returned (.int .i64 (sZ (x-y)))∧Below w.heap.size w w':=by
 obtain⟨kU,kW,kQ,kS,kT,kV,kP,kR,_,_,rfl,-⟩:=bS hv;obtain⟨qv,qw,qt,qu,pN,pO,pL,pM,_,_,rfl,-⟩:=bS hu;have hb:Below w.heap.size w ((w.alloc (.cells (zD kU kW kQ kS kT kV kP kR) 193)).alloc (.cells (zD qv qw qt qu pN pO pL pM) 193)):=((yB _ w).alloc (yA _) _).alloc (by simp) _;have HV:=zh (hv.grow hb);have HU:=zh (hu.grow hb);have HB:=zh hb;have HK:=zh hK;clear hv hu hb hK;go_enter Tryz.func175,Tryz.ntmps175
 go_wp2_with fail;refine (kM _ _ x y K M _ HV.o HU.o HK.o).mono ?_;rintro e w3 ⟨v3,rfl,bM,h3⟩;have H3:=zh h3;have cZ:=zh (HB.o.trans (bM.mono HB.o.size));clear h3 bM HV HU HB;go_wp2_with fail;refine (qqk _ (x-y) (K+M+1) _ H3.o).mono ?_;rintro e w4 ⟨rfl,bU⟩;have fI:=zh (cZ.o.trans (bU.mono cZ.o.size));clear bU H3 cZ;go_wp2_with fail;go_ret;exact⟨rfl,fI.o⟩
def Dr (w:World) (q:Rat) (e:Ending) (w':World):Prop:=∃s1 v1 s2 v2,e=.returned (.agg #[.bool s1,v1,.bool s2,v2])∧Below w.heap.size w w'∧BigAt w' w'.heap.size s1 v1 q.num∧BigAt w' w'.heap.size s2 v2 (q.den:Int)
theorem Yl {N D:Int} (hD:0<D) (hN:N≠0):decide (N<0)=decide ((Rat.divInt N D).num<0):=by
 have h:=LR (n:=N) (d:=D) (by omega) hN;exact decide_eq_decide.2 ⟨fun h1=>h.2 (.inl ⟨h1,hD⟩),fun h1=>by
  rcases h.1 h1 with h2|h2
  ·exact h2.1
  omega⟩
theorem Ft {w w8:World} {R:Nat} (hR:w.heap.size≤R) (hb:Below w.heap.size w w8) (hD:Blk w8 R 193 (zD false none 0 0 false none 0 0)) {s1 s2:Bool} {v1 v2:Value} {N D:Int} (h4:BigAt w8 w8.heap.size s1 v1 N) (h5:BigAt w8 w8.heap.size s2 v2 D) :
  Below w.heap.size w ((((w8.setCell ⟨R,0,none⟩ (.bool s1)).setCell ⟨R,1,none⟩ v1).setCell ⟨R,2,none⟩ (.bool s2)).setCell ⟨R,3,none⟩ v2)∧BigAt ((((w8.setCell ⟨R,0,none⟩ (.bool s1)).setCell ⟨R,1,none⟩ v1).setCell ⟨R,2,none⟩ (.bool s2)).setCell ⟨R,3,none⟩ v2) ((((w8.setCell ⟨R,0,none⟩ (.bool s1)).setCell ⟨R,1,none⟩ v1).setCell ⟨R,2,none⟩ (.bool s2)).setCell ⟨R,3,none⟩ v2).heap.size s1 v1 N∧BigAt ((((w8.setCell ⟨R,0,none⟩ (.bool s1)).setCell ⟨R,1,none⟩ v1).setCell ⟨R,2,none⟩ (.bool s2)).setCell ⟨R,3,none⟩ v2) ((((w8.setCell ⟨R,0,none⟩ (.bool s1)).setCell ⟨R,1,none⟩ v1).setCell ⟨R,2,none⟩ (.bool s2)).setCell ⟨R,3,none⟩ v2).heap.size s2 v2 D:=by
 have h1:=hD.set_ 0 (.bool s1);have h2:=h1.set_ 1 v1;have h3:=h2.set_ 2 (.bool s2);have z0:=hD.cell 0;have z1:=h1.cell 1;have z2:=h2.cell 2;have z3:=h3.cell 3;simp only[aG,aD] at z0;have hU:∀ {v:Value} {x k:Nat},DgTo w8 w8.heap.size v x k→DgTo ((((w8.setCell ⟨R,0,none⟩ (.bool s1)).setCell ⟨R,1,none⟩ v1).setCell ⟨R,2,none⟩ (.bool s2)).setCell ⟨R,3,none⟩ v2) ((((w8.setCell ⟨R,0,none⟩ (.bool s1)).setCell ⟨R,1,none⟩ v1).setCell ⟨R,2,none⟩ (.bool s2)).setCell ⟨R,3,none⟩ v2).heap.size v x k:=fun h=>by
  have g1:=DgTo.set h z0 (fun z=>by simp) (.bool s1);have g2:=DgTo.set g1 (u:=.slice none 0 0) z1 (fun z=>by simp) v1;have g3:=DgTo.set g2 (u:=.bool false) z2 (fun z=>by simp) (.bool s2);have g4:=DgTo.set g3 (u:=.slice none 0 0) z3 (fun z=>by simp) v2;exact DgTo.mono g4 (by simp[World.setCell])
 exact⟨(((hb.setCell (p:=⟨R,0,none⟩) hR _).setCell (p:=⟨R,1,none⟩) hR _).setCell (p:=⟨R,2,none⟩) hR _).setCell (p:=⟨R,3,none⟩) hR _,⟨h4.1,hU h4.2⟩,⟨h5.1,hU h5.2⟩⟩
theorem Ci (v:Value) (x:Rat) (K:Nat) (w:World) (hv:ExqAt w w.heap.size v x K) (hK:K≤300000) :
  Calls Tryz.prog 148 #[v] w (Dr w x):=by
 obtain⟨b1,v1,b2,v2,N,D,rfl,cB,dc,hD,sR,kC,Oa⟩:=hv;obtain⟨A1,c1,rfl,Mf,Me,-⟩:=DgTo.open_ cB.2;obtain⟨A2,c2,rfl,Yy,Ux,-⟩:=DgTo.open_ dc.2;unfold maxLen at Me Ux;have hz:=oP (x:=N.natAbs);have zP:=zh cB;have kF:=zh dc;have HK:=zh hK;have zx:=zh sR;have sL:=zh kC;have HD:=zh hD;have HXq:=zh Oa;have B1:=(Blk.new w 193 (zD b1 A1 (ag N.natAbs) c1 b2 A2 (ag D.natAbs) c2)).alloc (.cells (zD false none 0 0 false none 0 0) 193)
 have B3:=Blk.new (w.alloc (.cells (zD b1 A1 (ag N.natAbs) c1 b2 A2 (ag D.natAbs) c2) 193)) 193 (zD false none 0 0 false none 0 0);rw[yZ] at B3;have bp:Below w.heap.size w ((w.alloc (.cells (zD b1 A1 (ag N.natAbs) c1 b2 A2 (ag D.natAbs) c2) 193)).alloc (.cells (zD false none 0 0 false none 0 0) 193)):=((yB _ w).alloc (yA _) _).alloc (by simp) _;clear cB dc sR kC hK hD Oa;go_enter Tryz.func148,Tryz.ntmps148
 go_upto_region 1 with fail;generalize (w.alloc (.cells (zD b1 A1 (ag N.natAbs) c1 b2 A2 (ag D.natAbs) c2) 193)).alloc (.cells (zD false none 0 0 false none 0 0) 193)=W2 at*;have q0:=B1.cell 0;have q1:=B1.cell 1;have q3:=B1.cell 3;simp only[aG,aH,aD] at q0 q1 q3;have cP:=zh B1;have cZ:=zh B3;have bp:=zh bp;clear B1 B3;by_cases MB:ag N.natAbs=0
 ·have hd:(ag N.natAbs==0)=true:=beq_iff_eq.2 MB;have PK:Y0 (N=0):=by have:=hz.1 MB;unfold Y0;omega
  clear hz;go_wp2_with fail;refine (AQ 0 _ (by decide) (by decide)).mono ?_;rintro e w3 ⟨s3,v3,rfl,bM,h3⟩;obtain⟨A3,c3,rfl,-⟩:=DgTo.open_ h3.2;have H3:=zh h3;have fI:=zh (cZ.o.below bM cZ.o.lt);have OX:=zh (bp.o.trans (bM.mono bp.o.size));clear bM h3 q0 q1 q3;generalize hl3:ag (0:Int).natAbs=l3 at*;clear hl3;go_wp2_with fail;refine (AQ 1 _ (by decide) (by decide)).mono ?_;rintro e w4 ⟨s4,v4,rfl,bU,h4⟩
  obtain⟨A4,c4,rfl,-⟩:=DgTo.open_ h4.2;have H4:=zh h4;have H5:=zh (H3.o.grow bU);have bj:=zh (fI.o.below bU fI.o.lt);have ep:=zh (OX.o.trans (bU.mono OX.o.size));clear bU h4 H3 fI OX;generalize hl4:ag (1:Int).natAbs=l4 at*;clear hl4;have eu:=zh (Ft (w:=w) (by omega) ep.o bj.o H5.o H4.o);have q0:=bj.o.cell 0;have q1:=bj.o.cell 1;have q2:=bj.o.cell 2;have q3:=bj.o.cell 3;have f0:=bj.o.frozen 0;have f1:=bj.o.frozen 1
  have f2:=bj.o.frozen 2;have f3:=bj.o.frozen 3;simp only[aG,aH,aD] at q0 q1 q2 q3;go_wp2_with fail;refine YF (v:=.agg (zD s3 A3 l3 c3 s4 A4 l4 c4)) (by simp[results,Tryz.results148,go_sem,q0,q1,q2,q3]) rfl ?_;have e0:x=((0:Int):Rat):=by rw[HXq.o,PK.o,uI]
  exact⟨_,_,_,_,rfl,eu.o.1,by rw[e0];exact eu.o.2.1,by rw[e0];exact eu.o.2.2⟩
 have hd:(ag N.natAbs==0)=false:=zb MB;have nH:(((ag N.natAbs:Nat):Int)==0)=false:=zb (by omega);have PK:Y0 (0<N.natAbs):=by unfold Y0;rcases Nat.eq_zero_or_pos N.natAbs with h|h;exact absurd (hz.2 h) MB;exact h
 have HDp:Y0 (0<D.natAbs):=by have:=HD.o;unfold Y0;omega
 have vwR:=zh (zP.o.grow bp.o);have vwQ:=zh (kF.o.grow bp.o);clear hz MB;go_wp2_with fail;refine (qj5 _ _ N.natAbs D.natAbs K _ vwR.o.2 vwQ.o.2 HK.o zx.o sL.o PK.o HDp.o).mono ?_;rintro e w3 ⟨v3,rfl,bM,h3⟩;have HL:=zh (rP (n:=N) (d:=D) (by have:=HD.o;omega));have HGp:Y0 (0<Nat.gcd N.natAbs D.natAbs):=Nat.gcd_pos_of_pos_left _ PK.o;have HGl:Y0 (ag (Nat.gcd N.natAbs D.natAbs)≤K):=yH (cj (Nat.gcd_le_left _ PK.o)) zx.o
 generalize Nat.gcd N.natAbs D.natAbs=G at*;obtain⟨A3,c3,rfl,-⟩:=DgTo.open_ h3;have H3:=zh h3;have zz:=zh (vwR.o.grow bM);have HA4:=zh (vwQ.o.grow bM);have fI:=zh (cZ.o.below bM cZ.o.lt);have cJ:=zh (cP.o.below bM cP.o.lt);have OX:=zh (bp.o.trans (bM.mono bp.o.size));clear bM h3 q0 q1 q3 vwR vwQ hd nH;have q0:=cJ.o.cell 0;have q1:=cJ.o.cell 1;have q3:=cJ.o.cell 3;simp only[aG,aH,aD] at q0 q1 q3;have u0:=YL q0
 have u1:=YL q1;have u3:=YL q3;clear q0 q1 q3;go_upto_region 4 with fail;refine af 16 (fun i=>if i=7 then some (gDg (N.natAbs/G)) else if i=13 then some (gDg (D.natAbs/G)) else none) (by kernel_rfl) (by kernel_rfl) ?_;simp only[aM,aP,aN,aO];refine zw 7 ?_;simp only[aM,aP,aN,aO]
 repeat (go_big_quiet_step (fail))
 refine YE ?_;refine ae rfl rfl ?_ ?_
 ·intro w1 ak hk;exact zc (tF (wN _ _ N.natAbs G K w1 (zz.o.grow ak).2 (DgTo.grow H3.o ak) HK.o zx.o HGl.o HGp.o))
 rintro _ ⟨A5,c5,rfl⟩;simp only[Act.put,aC,aB,aA];refine zw 5 ?_;simp only[aM,aP,aN,aO]
 repeat (go_big_quiet_step (fail))
 refine YE ?_;refine ae rfl rfl ?_ ?_
 ·intro w1 ak hk;exact zc (tF (wN _ _ D.natAbs G K w1 (HA4.o.grow ak).2 (DgTo.grow H3.o ak) HK.o sL.o HGl.o HGp.o))
 rintro _ ⟨A6,c6,rfl⟩;simp only[Act.put,aC,aB,aA];refine zw 2 ?_;simp only[aM,aP,aN,aO]
 repeat (go_big_quiet_step (fail))
 refine YE ?_;refine Zc ?_;intro w8 aJ hF;have h5:DgTo w8 w8.heap.size (.slice A5 (ag (N.natAbs/G)) c5) (N.natAbs/G) (ag (N.natAbs/G)):=hF 26;have h6:DgTo w8 w8.heap.size (.slice A6 (ag (D.natAbs/G)) c6) (D.natAbs/G) (ag (D.natAbs/G)):=hF 32;have bj:=zh (fI.o.below aJ fI.o.lt);have ep:=zh (OX.o.trans (aJ.mono OX.o.size));have hs:b1=decide (x.num<0):=by
  have:=PK.o;rw[zP.o.1,HXq.o];exact Yl HD.o (by omega)
 have H5:Y0 (BigAt w8 w8.heap.size b1 (.slice A5 (ag (N.natAbs/G)) c5) x.num):=⟨hs,by
  unfold dA;rw[HXq.o,HL.o.1];exact h5⟩
 have H6:Y0 (BigAt w8 w8.heap.size false (.slice A6 (ag (D.natAbs/G)) c6) (x.den:Int)):=⟨(yC (by omega)).symm,by
  unfold dA;rw[Int.natAbs_natCast,HXq.o,HL.o.2];exact h6⟩
 have eu:=zh (Ft (w:=w) (by omega) ep.o bj.o H5.o H6.o);have q0:=bj.o.cell 0;have q1:=bj.o.cell 1;have q2:=bj.o.cell 2;have q3:=bj.o.cell 3;have f0:=bj.o.frozen 0;have f1:=bj.o.frozen 1;have f2:=bj.o.frozen 2;have f3:=bj.o.frozen 3;simp only[aG,aH,aD] at q0 q1 q2 q3;clear hF aJ hs h5 h6 u0 u1 u3;go_wp2_with fail;refine YF (v:=.agg (zD b1 A5 (ag (N.natAbs/G)) c5 false A6 (ag (D.natAbs/G)) c6)) (by simp[results,Tryz.results148,go_sem,q0,q1,q2,q3]) rfl ?_
 exact⟨_,_,_,_,rfl,eu.o.1,eu.o.2.1,eu.o.2.2⟩
theorem LS {w:World} {q:Rat} {K:Nat} {e:Ending} {w':World} (h:Dr w q e w') (h1:ag q.num.natAbs≤K) (h2:ag q.den≤K):eD w q K e w':=by
 obtain⟨s1,v1,s2,v2,rfl,hb,h3,h4⟩:=h;exact⟨_,rfl,hb,s1,v1,s2,v2,q.num,(q.den:Int),rfl,h3,h4,by have:=q.den_pos;omega,h1,by rw[Int.natAbs_natCast];exact h2,(Rat.num_divInt_den q).symm⟩
structure RgFr (w wr:World) (g4 B:Nat) (s1 s2:Bool) (v1 v2:Value) (N M:Nat):Prop where
 bel:Below w.heap.size w wr
 gw:w.heap.size+1<g4
 gB:g4<B
 Bw:B≤wr.heap.size
 res:Blk wr (w.heap.size+1) 29 #[.int .i64 0,.int .i64 0]
 low:Blk wr g4 193 #[.bool s1,v1,.bool s2,v2]
 n1:dA wr B v1 N
 n2:dA wr B v2 M
section
variable {w wr w':World} {g4 B g6:Nat} {s1 s2:Bool} {v1 v2:Value} {N M:Nat} {cs:Array Value}
theorem RgFr.below (h:RgFr w wr g4 B s1 s2 v1 v2 N M) (hb:Below B wr w'):RgFr w w' g4 B s1 s2 v1 v2 N M :=
 have h1:=h.gw;have h2:=h.gB
 ⟨h.bel.trans (hb.mono (by omega)),h1,h2,yH h.Bw hb.size,h.res.below hb (by omega),h.low.below hb h2,DgTo.below h.n1 hb (yA _),DgTo.below h.n2 hb (yA _)⟩
theorem RgFr.up (h:RgFr w wr g4 B s1 s2 v1 v2 N M):RgFr w wr g4 wr.heap.size s1 s2 v1 v2 N M :=
 ⟨h.bel,h.gw,yK h.gB h.Bw,yA _,h.res,h.low,DgTo.mono h.n1 h.Bw,DgTo.mono h.n2 h.Bw⟩
theorem RgFr.grow (h:RgFr w wr g4 B s1 s2 v1 v2 N M) (hb:Below wr.heap.size wr w'):RgFr w w' g4 w'.heap.size s1 s2 v1 v2 N M:=(h.up.below hb).up
theorem RgFr.set (h:RgFr w wr g4 B s1 s2 v1 v2 N M) (hb:Blk wr B 29 cs) (i:Nat) (u:Value):RgFr w (wr.setCell ⟨B,i,none⟩ u) g4 B s1 s2 v1 v2 N M∧Blk (wr.setCell ⟨B,i,none⟩ u) B 29 (cs.setIfInBounds i u) :=
 ⟨h.below ((yB _ wr).setCell (p:=⟨B,i,none⟩) (yA _) _),hb.set_ i u⟩
end
theorem Mz (N i:Nat):16777216*(N/16777216^(i+1))+ax N i=N/16777216^i:=by
 rw[yW,←YB];exact YI _ _
theorem qqh {x:Rat} (s:Bool) (hs:s=decide (x.num<0)):(s=true→x.num=-(x.num.natAbs:Int))∧(s=false→x.num=(x.num.natAbs:Int)):=by
 subst hs;exact⟨fun h=>by have:=yG h;omega,fun h=>by have:=of_decide_eq_false h;omega⟩
theorem I5 (v:Value) (x:Rat) (K:Nat) (w:World) (hv:ExqAt w w.heap.size v x K) (hK:K≤300000) :
  Calls Tryz.prog 141 #[v] w fun e w'=>e=.returned (dS x)∧Below w.heap.size w w':=by
 obtain⟨b1,A1,l1,c1,b2,A2,l2,c2,_,_,rfl,-⟩:=bS hv;have HK:=zh hK;have B1:=(Blk.new w 193 (zD b1 A1 l1 c1 b2 A2 l2 c2)).alloc (.cells #[.int .i64 0,.int .i64 0] 29);have B3:=Blk.new (w.alloc (.cells (zD b1 A1 l1 c1 b2 A2 l2 c2) 193)) 29 #[.int .i64 0,.int .i64 0];rw[yZ] at B3;have hbW:Below w.heap.size w ((w.alloc (.cells (zD b1 A1 l1 c1 b2 A2 l2 c2) 193)).alloc (.cells #[.int .i64 0,.int .i64 0] 29)):=((yB _ w).alloc (yA _) _).alloc (by simp) _
 have HV:=zh (hv.grow hbW);have HsW:Y0 (w.heap.size+2=((w.alloc (.cells (zD b1 A1 l1 c1 b2 A2 l2 c2) 193)).alloc (.cells #[.int .i64 0,.int .i64 0] 29)).heap.size):=by unfold Y0;simp
 have bp:=zh hbW;clear hv hK hbW;go_enter Tryz.func141,Tryz.ntmps141;go_upto_region 1 with fail;generalize (w.alloc (.cells (zD b1 A1 l1 c1 b2 A2 l2 c2) 193)).alloc (.cells #[.int .i64 0,.int .i64 0] 29)=W2 at*;have cP:=zh B1;have cZ:=zh B3;obtain⟨q0,q1,q2,q3⟩:=cP.o.c4;clear B1 B3;go_wp2_with fail;refine (Ci _ x K _ HV.o HK.o).mono ?_;rintro e w3 ⟨s1,v1,s2,v2,rfl,bM,h1,h2⟩;have kZ:=h1.1;have pR:=h1.2
 have nH:=h2.2;rw[Int.natAbs_natCast] at nH;have HSg:=zh (qqh s1 kZ);have HFo:Y0 (bF x=(decide (x.num.natAbs≤1152921504606846976)&&decide (x.den≤1152921504606846976))):=rfl;have HFv:Y0 (dS x=if bF x=true then .tuple #[.agg #[.int .i64 x.num,.int .i64 (x.den:Int)],.int .i64 0] else .tuple #[.agg #[.int .i64 0,.int .i64 0],.int .i64 5]):=rfl;generalize x.num.natAbs=N at*;generalize x.den=M at*;obtain⟨A3,c3,rfl,hm3,hn3,-⟩:=DgTo.open_ pR
 obtain⟨A4,c4,rfl,hm4,hn4,-⟩:=DgTo.open_ nH;have nF:Y0 (RgFr w (w3.alloc (.cells (zD s1 A3 (ag N) c3 s2 A4 (ag M) c4) 193)) w3.heap.size (w3.alloc (.cells (zD s1 A3 (ag N) c3 s2 A4 (ag M) c4) 193)).heap.size s1 s2 (.slice A3 (ag N) c3) (.slice A4 (ag M) c4) N M):=by
  have lE:Below w3.heap.size w3 (w3.alloc (.cells (zD s1 A3 (ag N) c3 s2 A4 (ag M) c4) 193)):=(yB _ w3).alloc (yA _) _;have aR:=bp.o.trans (bM.mono bp.o.size);have de:=bM.size;have hsw:=HsW.o;exact⟨aR.trans (lE.mono aR.size),by omega,by simp,yA _,(cZ.o.below bM cZ.o.lt).alloc _,Blk.new _ _ _,DgTo.grow pR lE,DgTo.grow nH lE⟩
 clear h1 h2 bM kZ pR nH q0 q1 q2 q3 cP cZ;unfold maxLen at hn3 hn4;go_upto_region 2 with fail;obtain⟨g4,hg4⟩:∃g4,g4=w3.heap.size:=⟨_,rfl⟩;rw[←hg4] at nF⊢;generalize w3.alloc (.cells (zD s1 A3 (ag N) c3 s2 A4 (ag M) c4) 193)=W4 at*;clear hg4;go_wp2_with fail;refine (AQ 1152921504606846976 _ (by decide) (by decide)).mono ?_;rintro e w5 ⟨s5,v5,rfl,aR,h5⟩;have hd5:=h5.2;obtain⟨jG,vq4⟩:∃jG:Nat,jG=(1152921504606846976:Int).natAbs:=⟨_,rfl⟩
 rw[←vq4] at hd5;have ZX:Y0 (jG=1152921504606846976):=vq4;obtain⟨A5,c5,rfl,-⟩:=DgTo.open_ hd5;have lE:Below w5.heap.size w5 (w5.alloc (.cells #[.bool s5,.slice A5 (ag jG) c5] 191)):=(yB _ w5).alloc (yA _) _;have pK:=zh (DgTo.grow hd5 lE);have dY:=zh ((nF.o.grow aR).grow lE);have cJ:=zh (Blk.new w5 191 #[.bool s5,.slice A5 (ag jG) c5]);have ZW:Y0 (w5.heap.size<(w5.alloc (.cells #[.bool s5,.slice A5 (ag jG) c5] 191)).heap.size):=by unfold Y0;simp
 clear h5 aR hd5 lE nF vq4;go_upto_region 3 with fail;obtain⟨g5,Oj⟩:∃g5,g5=w5.heap.size:=⟨_,rfl⟩;rw[←Oj] at cJ ZW⊢;generalize w5.alloc (.cells #[.bool s5,.slice A5 (ag jG) c5] 191)=W6 at*;clear Oj;have q1:=dY.o.low.cell 1;have q3:=dY.o.low.cell 3;have p1:=cJ.o.cell 1;simp only[aG,aH,aD] at q1 q3 p1;go_wp2_with fail;refine (lM _ _ N jG _ dY.o.n1 pK.o).mono ?_;rintro e w7 ⟨rfl,lF⟩;have dP:=zh (dY.o.grow lF)
 have Lc:=zh (DgTo.grow pK.o lF);have pd:=zh (cJ.o.below lF ZW.o);have vvw:=zh (yK ZW.o lF.size);clear lF dY pK cJ ZW q1 q3 p1;by_cases hN:jG<N
 ·have HF:dS x=.tuple #[.agg #[.int .i64 0,.int .i64 0],.int .i64 5]:=by
   rw[HFv.o,HFo.o,if_neg]
   have:=ZX.o;simp;omega
  rw[yD hN];have et:=zh HF;have r0:=dP.o.res.cell 0;have r1:=dP.o.res.cell 1;have f0:=dP.o.res.frozen 0;have f1:=dP.o.res.frozen 1;simp only[aG,aH,aD] at r0 r1;have k7:=zh dP.o.bel;clear HF hN;go_wp2_with fail;have t0:=(((dP.o.res.set_ 0 (.int .i64 0)).set_ 1 (.int .i64 0))).cell 0;have t1:=(((dP.o.res.set_ 0 (.int .i64 0)).set_ 1 (.int .i64 0))).cell 1;simp only[aC,aB,aA,aG,aH,aD] at t0 t1;refine YF (v:=.tuple #[.agg #[.int .i64 0,.int .i64 0],.int .i64 5]) (by simp[results,Tryz.results141,go_sem,t0,t1]) rfl ?_
  exact⟨by rw[et.o],(k7.o.setCell (p:=⟨w.heap.size+1,0,none⟩) (YH _) _).setCell (p:=⟨w.heap.size+1,1,none⟩) (YH _) _⟩
 rw[yC hN];have q3:=dP.o.low.cell 3;have p1:=pd.o.cell 1;simp only[aG,aH,aD] at q3 p1;have HNl:Y0 (N≤1152921504606846976):=by have:=ZX.o;unfold Y0;omega
 clear hN;go_wp2_with fail;refine (lM _ _ M jG _ dP.o.n2 Lc.o).mono ?_;rintro e w8 ⟨rfl,aJ⟩;have dt:=zh (dP.o.grow aJ);clear aJ dP Lc pd vvw q3 p1;by_cases hN:jG<M
 ·have HF:dS x=.tuple #[.agg #[.int .i64 0,.int .i64 0],.int .i64 5]:=by
   rw[HFv.o,HFo.o,if_neg]
   have:=ZX.o;simp;omega
  rw[yD hN];have et:=zh HF;have r0:=dt.o.res.cell 0;have r1:=dt.o.res.cell 1;have f0:=dt.o.res.frozen 0;have f1:=dt.o.res.frozen 1;simp only[aG,aH,aD] at r0 r1;have k7:=zh dt.o.bel;clear HF hN;go_wp2_with fail;have t0:=(((dt.o.res.set_ 0 (.int .i64 0)).set_ 1 (.int .i64 0))).cell 0;have t1:=(((dt.o.res.set_ 0 (.int .i64 0)).set_ 1 (.int .i64 0))).cell 1;simp only[aC,aB,aA,aG,aH,aD] at t0 t1;refine YF (v:=.tuple #[.agg #[.int .i64 0,.int .i64 0],.int .i64 5]) (by simp[results,Tryz.results141,go_sem,t0,t1]) rfl ?_
  exact⟨by rw[et.o],(k7.o.setCell (p:=⟨w.heap.size+1,0,none⟩) (YH _) _).setCell (p:=⟨w.heap.size+1,1,none⟩) (YH _) _⟩
 rw[yC hN];have HMl:Y0 (M≤1152921504606846976):=by have:=ZX.o;unfold Y0;omega
 have HFy:Y0 (dS x=.tuple #[.agg #[.int .i64 x.num,.int .i64 (M:Int)],.int .i64 0]):=by
  have h1:=HNl.o;have h2:=HMl.o;unfold Y0;rw[HFv.o,HFo.o,if_pos];simp;omega
 clear hN HFv HFo;go_upto_region 6 with fail;have GD:Y0 (RgFr w (w8.alloc (.cells #[.int .i64 0,.int .i64 0] 29)) g4 w8.heap.size s1 s2 (.slice A3 (ag N) c3) (.slice A4 (ag M) c4) N M):=dt.o.below ((yB _ w8).alloc (yA _) _);have HAa:=zh (Blk.new w8 29 #[.int .i64 0,.int .i64 0]);obtain⟨g6,hg6⟩:∃g6,g6=w8.heap.size:=⟨_,rfl⟩;rw[←hg6] at GD HAa⊢;generalize w8.alloc (.cells #[.int .i64 0,.int .i64 0] 29)=W9 at*
 have HS:=zh GD.o;have HA:=zh HAa.o;have y1:=HS.o.low.cell 1;simp only[aG,aH,aD] at y1;clear GD HAa dt hg6;go_wp2_with fail;go_loopw [7] (fun kx wr=>∃m:Nat,m≤ag N∧kx=.int .i64 ((m:Int)-1)∧Y0 (RgFr w wr g4 g6 s1 s2 (.slice A3 (ag N) c3) (.slice A4 (ag M) c4) N M)∧Y0 (Blk wr g6 29 #[.int .i64 ((N/16777216^m:Nat):Int),.int .i64 0])) (fun kx _=>(intOf kx+1).toNat)
 case atStart=>exact⟨ag N,yA _,by go_num,HS,by rw[Nat.div_eq_of_lt (jc N)];exact HA⟩
 clear HS HA;obtain⟨m,hm,rfl,HS,HA⟩:=hrel;have a0:=HA.o.cell 0;have f0:=HA.o.frozen 0;have y1:=HS.o.low.cell 1;have y0:=HS.o.low.cell 0;simp only[aG,aH,aD] at a0 y1 y0;rcases m with _|i
 ·rw[Nat.pow_zero,Nat.div_one] at HA;have y9:=HS.o.low.cell 3;simp only[aG,aH,aD] at y9;clear hm;go_wp2_with fail;go_loopw [8] (fun kx wr=>∃m:Nat,m≤ag M∧kx=.int .i64 ((m:Int)-1)∧Y0 (RgFr w wr g4 g6 s1 s2 (.slice A3 (ag N) c3) (.slice A4 (ag M) c4) N M)∧Y0 (Blk wr g6 29 #[.int .i64 (N:Int),.int .i64 ((M/16777216^m:Nat):Int)])) (fun kx _=>(intOf kx+1).toNat)
  case atStart=>exact⟨ag M,yA _,by go_num,HS,by rw[Nat.div_eq_of_lt (jc M)];exact HA⟩
  clear HS HA;obtain⟨m,hm,rfl,HS,HA⟩:=hrel;have a1:=HA.o.cell 1;have f1:=HA.o.frozen 1;have y1:=HS.o.low.cell 3;have y0:=HS.o.low.cell 0;simp only[aG,aH,aD] at a1 y1 y0;rcases m with _|i
  ·rw[Nat.pow_zero,Nat.div_one] at HA;have HT:Y0 (∀(q:Int) (OV:World),x.num=q→RgFr w OV g4 g6 s1 s2 (.slice A3 (ag N) c3) (.slice A4 (ag M) c4) N M→Blk OV g6 29 #[.int .i64 q,.int .i64 (M:Int)]→x.num=q∧Blk OV g6 29 #[.int .i64 q,.int .i64 (M:Int)]∧Blk OV (w.heap.size+1) 29 #[.int .i64 0,.int .i64 0]∧Below w.heap.size w OV):=fun q OV h1 h2 h3=>⟨h1,h3,h2.res,h2.bel⟩;have f0:=HA.o.frozen 0;have a0:=HA.o.cell 0
   rw[Nat.pow_zero,Nat.div_one] at a1;simp only[aG,aD] at a0;cases s1
   case' true=>
    have HX:=zh (HSg.o.1 rfl);have hNl:=HNl.o;have v5:IntKind.i64.wrap (0-(N:Int))=-(N:Int):=(yF _ (by omega)).trans (by omega);have v6:IntKind.i64.wrap (-(N:Int))=-(N:Int):=yF _ (by omega);have aS:=zh (HS.o.set HA.o 0 (.int .i64 (-(N:Int))));have HE:=zh (HT.o (-(N:Int)) _ HX.o aS.o.1 aS.o.2);clear hNl aS HT HX HA HS;go_upto_region 16 with fail;generalize wr.setCell ⟨g6,0,none⟩ (.int .i64 (-(N:Int)))=OV at*
    generalize -(N:Int)=q at*
   case' false=>
    have HX:=zh (HSg.o.2 rfl);have HE:=zh (HT.o (N:Int) _ HX.o HS.o HA.o);clear HT HX HA HS;go_upto_region 16 with fail;generalize wr=OV at*;generalize hq:(N:Int)=q at*
   all_goals
    obtain⟨eq,hA,hR,hB⟩:=HE.o;have eq:=zh eq;have hB:=zh hB;have z0:=hA.cell 0;have z1:=hA.cell 1;have r0:=hR.cell 0;have r1:=hR.cell 1;have k0:=hR.frozen 0;have k1:=hR.frozen 1;simp only[aG,aH,aD] at z0 z1 r0 r1;have HR:=zh hR;clear hA hR HE f0 f1 a0 a1 y0 y1;go_wp2_with fail;have t0:=((HR.o.set_ 0 (.int .i64 q)).set_ 1 (.int .i64 (M:Int))).cell 0;have t1:=((HR.o.set_ 0 (.int .i64 q)).set_ 1 (.int .i64 (M:Int))).cell 1
    simp only[aC,aB,aA,aG,aH,aD] at t0 t1;refine YF (v:=.tuple #[.agg #[.int .i64 q,.int .i64 (M:Int)],.int .i64 0]) (by simp[results,Tryz.results141,go_sem,t0,t1]) rfl ?_;exact⟨by rw[HFy.o,eq.o],(hB.o.setCell (p:=⟨w.heap.size+1,0,none⟩) (YH _) _).setCell (p:=⟨w.heap.size+1,1,none⟩) (YH _) _⟩
  obtain⟨_,_,e9,-,-,aj⟩:=DgTo.open_ HS.o.n2;injection e9 with e9 _ e10;subst e9 e10;obtain⟨bb,oo,e8,mW,hx8⟩:=aj i (by omega);subst e8;have y2:=hx8 i (by omega);have e0:((i+1:Nat):Int)-1=(i:Int):=by omega
  rw[e0];have HE:=zh (Mz M i);have uT:Y0 (M/16777216^i≤1152921504606846976):=yH (YK _ _) HMl.o;have ko:=uT.o;rw[←HE.o] at ko;have hg:=eP M i;generalize hz:M/16777216^(i+1)=z at*;generalize ax M i=d at*;have HZ:Y0 (∀u:Int,u=16777216*(z:Int)+(d:Int)→u=((M/16777216^i:Nat):Int)):=fun u hu=>by rw[hu,←HE.o];omega
  have v1:IntKind.i64.wrap (16777216*(z:Int))=16777216*(z:Int):=yF _ (by omega);have v2:IntKind.i64.wrap (16777216*(z:Int)+(d:Int))=16777216*(z:Int)+(d:Int):=yF _ (by omega);have v3:IntKind.i64.wrap ((i:Int)-1)=(i:Int)-1:=yF _ (by omega);have i1:(i:Int)<(ag M:Int):=by omega
  have Mg:i<ag M:=by omega
  clear aj hx8 hz ko hm e0;have ua:=YL a1;have uy:=YL y1;have ud:=YL y2;clear y0 y2 a1 y1 f1;go_upto_region 13 with fail;refine af 11 (fun _=>none) (by kernel_rfl) (by kernel_rfl) ?_;simp only[aM,aP,aN,aO];refine zw 11 ?_;simp only[aM,aP,aN,aO]
  repeat (go_big_quiet_step (fail))
  refine YE ?_;refine Zc ?_;intro w9 jz hF;have nP:=zh (HS.o.below (jz.mono HS.o.Bw));have HA9:=zh (HA.o.below jz HA.o.lt);have a9:=HA9.o.cell 1;have f9:=HA9.o.frozen 1;simp only[aG,aH,aD] at a9;have aS:=zh (nP.o.set HA9.o 1 (.int .i64 (16777216*(z:Int)+(d:Int))));clear hF jz ua uy ud HS HA;go_wp2_with fail;go_roundw
  case rel=>exact⟨i,by omega,by go_num,aS.o.1,by rw[←HZ.o _ rfl];exact aS.o.2⟩
  simp[intOf] <;> omega
 obtain⟨_,_,e9,-,-,aj⟩:=DgTo.open_ HS.o.n1;injection e9 with e9 _ e10;subst e9 e10;obtain⟨bb,oo,e8,mW,hx8⟩:=aj i (by omega);subst e8;have y2:=hx8 i (by omega);have e0:((i+1:Nat):Int)-1=(i:Int):=by omega
 rw[e0];have HE:=zh (Mz N i);have uT:Y0 (N/16777216^i≤1152921504606846976):=yH (YK _ _) HNl.o;have ko:=uT.o;rw[←HE.o] at ko;have hg:=eP N i;generalize hz:N/16777216^(i+1)=z at*;generalize ax N i=d at*;have HZ:Y0 (∀u:Int,u=16777216*(z:Int)+(d:Int)→u=((N/16777216^i:Nat):Int)):=fun u hu=>by rw[hu,←HE.o];omega
 have v1:IntKind.i64.wrap (16777216*(z:Int))=16777216*(z:Int):=yF _ (by omega);have v2:IntKind.i64.wrap (16777216*(z:Int)+(d:Int))=16777216*(z:Int)+(d:Int):=yF _ (by omega);have v3:IntKind.i64.wrap ((i:Int)-1)=(i:Int)-1:=yF _ (by omega);have i1:(i:Int)<(ag N:Int):=by omega
 have Mg:i<ag N:=by omega
 clear aj hx8 hz ko hm e0;have ua:=YL a0;have uy:=YL y1;have ud:=YL y2;clear y0 y2 a0 y1 f0;go_upto_region 9 with fail;refine af 11 (fun _=>none) (by kernel_rfl) (by kernel_rfl) ?_;simp only[aM,aP,aN,aO];refine zw 11 ?_;simp only[aM,aP,aN,aO]
 repeat (go_big_quiet_step (fail))
 refine YE ?_;refine Zc ?_;intro w9 jz hF;have nP:=zh (HS.o.below (jz.mono HS.o.Bw));have HA9:=zh (HA.o.below jz HA.o.lt);have a9:=HA9.o.cell 0;have f9:=HA9.o.frozen 0;simp only[aG,aD] at a9;have aS:=zh (nP.o.set HA9.o 0 (.int .i64 (16777216*(z:Int)+(d:Int))));clear hF jz ua uy ud HS HA;go_wp2_with fail;go_roundw
 case rel=>exact⟨i,by omega,by go_num,aS.o.1,by rw[←HZ.o _ rfl];exact aS.o.2⟩
 simp[intOf] <;> omega
