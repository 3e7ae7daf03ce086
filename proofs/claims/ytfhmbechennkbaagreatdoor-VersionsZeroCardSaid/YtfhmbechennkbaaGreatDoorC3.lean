/- Lemmas. -/
import Derived.Test.YtfhmbechennkbaaGreatDoorC2
namespace Go.Proofs.YtfhmbechennkbaaGreatDoor
set_option maxRecDepth 100000
set_option maxHeartbeats 40000000
open Go.RowKit Go.Shelf
def ExactAt (w:World) (v:Value) (q:Rat):Prop:=∃ n1 s1 n2 s2,v = .agg #[.bool n1,s1,.bool n2,s2]∧NumAt w (.agg #[.bool n1,s1]) q.num∧NumAt w (.agg #[.bool n2,s2]) (q.den:Int)
theorem ExactAt.grow {w w':World} {v:Value} {q:Rat} (h:ExactAt w v q) (hb:Below w.heap.size w w'):ExactAt w' v q:=by
 obtain⟨n1,s1,n2,s2,h1,h2,h3⟩:=h
 exact⟨n1,s1,n2,s2,h1,h2.grow hb,h3.grow hb⟩
theorem ExactAt.setBox {w:World} {v:Value} {q:Rat} {D:Nat} {t:TypeId} {cs:Array Value} (h:ExactAt w v q) (hD:Blk w D t cs) (ht:t≠233) (i:Nat) (x:Value):ExactAt (w.setCell ⟨D,i,none⟩ x) v q:=by
 obtain⟨n1,s1,n2,s2,h1,h2,h3⟩:=h
 exact⟨n1,s1,n2,s2,h1,h2.setBox hD ht i x,h3.setBox hD ht i x⟩
theorem ExactAt.kept {w w':World} {v:Value} {q:Rat} {row:Option Nat} {t:TypeId} (h:ExactAt w v q) (Dx:w.grownBy w' row) (hg:∀ g,row=some g→∃ cs r,w.heap[g]? = some (.cells cs t r)) (ht:t≠233):ExactAt w' v q:=by
 obtain⟨n1,s1,n2,s2,h1,h2,h3⟩:=h
 exact⟨n1,s1,n2,s2,h1,h2.kept Dx hg ht,h3.kept Dx hg ht⟩
theorem ExactAt.form {w:World} {v:Value} {q:Rat} (h:ExactAt w v q):∃ n1 A1 l1 c1 n2 A2 l2 c2,v = .agg (zD n1 A1 l1 c1 n2 A2 l2 c2)∧NumAt w (.agg #[.bool n1,.slice A1 l1 c1]) q.num∧NumAt w (.agg #[.bool n2,.slice A2 l2 c2]) (q.den:Int):=by
 obtain⟨n1,s1,n2,s2,rfl,h2,h3⟩:=h
 obtain⟨n1,A1,l1,c1,e1,-⟩:=h2.form
 obtain⟨n2,A2,l2,c2,e2,-⟩:=h3.form
 simp only[Value.agg.injEq,Array.mk.injEq,List.cons.injEq,and_true] at e1 e2
 obtain⟨e11,e12⟩:=e1
 obtain⟨e21,e22⟩:=e2
 subst e12 e22
 exact⟨_,A1,l1,c1,_,A2,l2,c2,rfl,h2,h3⟩
def MakesE (q:Rat) (w:World) (e:Ending) (w':World):Prop:=Below w.heap.size w w'∧∃ v,e = .returned v∧ExactAt w' v q
def gE (q:Rat):GPost:=⟨fun v=>∃ n1 A1 l1 c1 n2 A2 l2 c2,v = .agg #[.bool n1,.slice A1 l1 c1,.bool n2,.slice A2 l2 c2],fun v w=>ExactAt w v q,⟨.agg #[.bool false,.slice none 0 0,.bool false,.slice none 0 0],false,none,0,0,false,none,0,0,rfl⟩,fun _ _ _ hb h=>ExactAt.grow h hb,false⟩
theorem MakesE.g {P:Program} {f:FuncId} {args:Array Value} {w:World} {q:Rat} (h:Calls P f args w (MakesE q w)):Calls P f args w fun e w'=>∃ v,e = .returned v∧Below w.heap.size w w'∧(gE q).σ v∧(gE q).φ v w' :=
 h.mono fun _ _ ⟨hb,v,he,hN⟩=>⟨v,he,hb,(by obtain⟨n1,A1,l1,c1,n2,A2,l2,c2,h1,_,_⟩:=hN.form;exact⟨n1,A1,l1,c1,n2,A2,l2,c2,h1⟩),hN⟩
theorem ExactAt.stored {w:World} {v:Value} {q:Rat} {D:Nat} {cs:Array Value} (h:ExactAt w v q) (hD:Blk w D 195 cs) (x0 x1 x2 x3:Value):ExactAt ((((w.setCell ⟨D,0,none⟩ x0).setCell ⟨D,1,none⟩ x1).setCell ⟨D,2,none⟩ x2).setCell ⟨D,3,none⟩ x3) v q :=
 (((h.setBox hD (by decide) 0 x0).setBox (hD.set_ 0 x0) (by decide) 1 x1).setBox ((hD.set_ 0 x0).set_ 1 x1) (by decide) 2 x2).setBox (((hD.set_ 0 x0).set_ 1 x1).set_ 2 x2) (by decide) 3 x3
theorem bC {B D:Nat} {w0 w:World} (h:Below B w0 w) (hD:B≤D) (x0 x1 x2 x3:Value):Below B w0 ((((w.setCell ⟨D,0,none⟩ x0).setCell ⟨D,1,none⟩ x1).setCell ⟨D,2,none⟩ x2).setCell ⟨D,3,none⟩ x3) :=
 (((h.setCell (p:=⟨D,0,none⟩) hD x0).setCell (p:=⟨D,1,none⟩) hD x1).setCell (p:=⟨D,2,none⟩) hD x2).setCell (p:=⟨D,3,none⟩) hD x3
theorem eV (n:Int) (w:World) (h0 : -4611686018427387904≤n) (h1:n≤4611686018427387904):Calls Tryz.prog 156 #[.int .i64 n] w (MakesE ((n:Int):Rat) w):=by
 have HD:=zh (Blk.new w 195 (zD false none 0 0 false none 0 0))
 have HB:=zh ((yB _ w).alloc (yA _) (.cells (zD false none 0 0 false none 0 0) 195))
 go_enter Tryz.func156,Tryz.ntmps156
 go_wp2_with fail
 generalize w.alloc (.cells (zD false none 0 0 false none 0 0) 195)=W at *
 refine (JA n W h0 h1).mono ?_
 rintro e w5 ⟨bg,v5,rfl,hN5⟩
 obtain⟨n5,A5,l5,c5,rfl,-⟩:=hN5.form
 have QS:=zh hN5
 have pS:=zh (HD.o.below bg HD.o.lt)
 have cN:=zh (HB.o.trans (bg.mono HB.o.size))
 clear bg hN5 HD HB
 go_wp2_with fail
 refine (JA 1 w5 (by decide) (by decide)).mono ?_
 rintro e w6 ⟨iq,v6,rfl,hN6⟩
 obtain⟨n6,A6,l6,c6,rfl,-⟩:=hN6.form
 have HN6:=zh hN6
 have vqw:=zh (QS.o.grow iq)
 have Ck:=zh (pS.o.below iq pS.o.lt)
 have lK:=zh (cN.o.trans (iq.mono cN.o.size))
 have q0:=Ck.o.cell 0
 have q1:=Ck.o.cell 1
 have q2:=Ck.o.cell 2
 have q3:=Ck.o.cell 3
 have f0:=Ck.o.frozen 0
 have f1:=Ck.o.frozen 1
 have f2:=Ck.o.frozen 2
 have f3:=Ck.o.frozen 3
 simp only[aP,aQ,aO] at q0 q1 q2 q3
 clear iq hN6 pS cN QS
 go_wp2_with fail
 refine YI (v:=.agg (zD n5 A5 l5 c5 n6 A6 l6 c6)) (by simp[results,Tryz.results156,go_sem,q0,q1,q2,q3]) rfl ?_
 have hE:ExactAt w6 (.agg (zD n5 A5 l5 c5 n6 A6 l6 c6)) ((n:Int):Rat):=⟨_,_,_,_,rfl,by rw[Rat.num_intCast];exact vqw.o,by rw[Rat.den_intCast];exact HN6.o⟩
 exact⟨bC lK.o (yA _) _ _ _ _,_,rfl,hE.stored Ck.o _ _ _ _⟩
theorem NumAt.parts {w:World} {nn:Bool} {s:Value} {z:Int} (h:NumAt w (.agg #[.bool nn,s]) z):WAt w s z.natAbs∧(z≠0→(nn=true↔z<0)):=by
 obtain⟨neg,s',m,e,h2,h3⟩:=h
 simp only[Value.agg.injEq,Array.mk.injEq,List.cons.injEq,and_true,Value.bool.injEq] at e
 obtain⟨e1,e2⟩:=e
 subst e1 e2
 have hm:z.natAbs=m:=by rw[h3];cases nn <;> simp
 rw[hm]
 refine⟨h2,fun hz=>?_⟩
 cases nn <;> simp at h3 ⊢ <;> omega
theorem qxF {n d:Int} (hd:d≠0) (hn:n≠0) {nn:Bool} (h:nn=true↔((n<0∧0<d)∨(0<n∧d<0))) :
  (Rat.divInt n d).num=if nn=true then -((n.natAbs / Nat.gcd n.natAbs d.natAbs:Nat):Int) else ((n.natAbs / Nat.gcd n.natAbs d.natAbs:Nat):Int):=by
 have h1:=(rS (n:=n) hd).1
 have h2:=Nt hd hn
 rw[← h1]
 by_cases e:nn=true
 ·have:=h2.2 (h.1 e)
  rw[if_pos e]
  omega
 have h3:¬ (Rat.divInt n d).num<0:=fun h3=>e (h.2 (h2.1 h3))
 rw[if_neg e]
 omega
theorem Qk {w:World} {D1 D2 D3:Nat} {t1 t2 t3:TypeId} {a1 b1 a2 b2:Value} {cs3:Array Value} (h1:Blk w D1 t1 #[a1,b1]) (h2:Blk w D2 t2 #[a2,b2]) (h3:Blk w D3 t3 cs3) (m6:D1≠D2) (Ch:D1≠D3) (h23:D2≠D3) (x1 y1 x2 y2:Value) :
  Blk ((((w.setCell ⟨D1,0,none⟩ x1).setCell ⟨D1,1,none⟩ y1).setCell ⟨D2,0,none⟩ x2).setCell ⟨D2,1,none⟩ y2) D1 t1 #[x1,y1]∧Blk ((((w.setCell ⟨D1,0,none⟩ x1).setCell ⟨D1,1,none⟩ y1).setCell ⟨D2,0,none⟩ x2).setCell ⟨D2,1,none⟩ y2) D2 t2 #[x2,y2] ∧
   Blk ((((w.setCell ⟨D1,0,none⟩ x1).setCell ⟨D1,1,none⟩ y1).setCell ⟨D2,0,none⟩ x2).setCell ⟨D2,1,none⟩ y2) D3 t3 cs3 :=
 ⟨(((h1.set_ 0 x1).set_ 1 y1).far (p:=⟨D2,0,none⟩) m6 x2).far (p:=⟨D2,1,none⟩) m6 y2,(((h2.far (p:=⟨D1,0,none⟩) (Ne.symm m6) x1).far (p:=⟨D1,1,none⟩) (Ne.symm m6) y1).set_ 0 x2).set_ 1 y2,
  (((h3.far (p:=⟨D1,0,none⟩) (Ne.symm Ch) x1).far (p:=⟨D1,1,none⟩) (Ne.symm Ch) y1).far (p:=⟨D2,0,none⟩) (Ne.symm h23) x2).far (p:=⟨D2,1,none⟩) (Ne.symm h23) y2⟩
theorem NumAt.set2 {w:World} {v:Value} {z:Int} {D1 D2:Nat} {t1 t2:TypeId} {cs1 cs2:Array Value} (h:NumAt w v z) (h1:Blk w D1 t1 cs1) (h2:Blk w D2 t2 cs2) (m6:D1≠D2) (IR:t1≠233) (IQ:t2≠233) (x1 y1 x2 y2:Value) :
  NumAt ((((w.setCell ⟨D1,0,none⟩ x1).setCell ⟨D1,1,none⟩ y1).setCell ⟨D2,0,none⟩ x2).setCell ⟨D2,1,none⟩ y2) v z :=
 (((h.setBox h1 IR 0 x1).setBox (h1.set_ 0 x1) IR 1 y1).setBox ((h2.far (p:=⟨D1,0,none⟩) (Ne.symm m6) x1).far (p:=⟨D1,1,none⟩) (Ne.symm m6) y1) IQ 0 x2).setBox (((h2.far (p:=⟨D1,0,none⟩) (Ne.symm m6) x1).far (p:=⟨D1,1,none⟩) (Ne.symm m6) y1).set_ 0 x2) IQ 1 y2
theorem uI (d:Int):Rat.divInt 0 d=((0:Int):Rat):=by rw[Rat.zero_divInt];rfl
theorem sE (v u:Value) (n d:Int) (K:Nat) (w:World) (hv:NumAt w v n) (hu:NumAt w u d) (IZ:d≠0) (hK:K≤400000) (hx:n.natAbs<4294967296 ^ K) (hy:d.natAbs<4294967296 ^ K) :
  Calls Tryz.prog 192 #[v,u] w (MakesE (Rat.divInt n d) w):=by
 obtain⟨n1,A1,l1,c1,rfl,-⟩:=hv.form
 obtain⟨n2,A2,l2,c2,rfl,-⟩:=hu.form
 have HV:=zh hv
 have HU:=zh hu
 have po:=zh (cf w 193 193 195 #[.bool n1,.slice A1 l1 c1] #[.bool n2,.slice A2 l2 c2] (zD false none 0 0 false none 0 0))
 have ME:Y0 (K≤500000):=by unfold Y0;omega
 have HX:=zh hx
 have HY:=zh hy
 have kA:=zh IZ
 clear hx hy hK IZ hv hu
 go_enter Tryz.func192,Tryz.ntmps192
 go_wp2_with fail
 generalize ((w.alloc (.cells #[.bool n1,.slice A1 l1 c1] 193)).alloc (.cells #[.bool n2,.slice A2 l2 c2] 193)).alloc (.cells (zD false none 0 0 false none 0 0) 195)=W3 at *
 obtain⟨B1,B2,B3,bw⟩:=po.o
 obtain⟨iZ,j9⟩:=B1.c2
 have B1:=zh B1
 have B2:=zh B2
 have B3:=zh B3
 have bw:=zh bw
 clear po
 go_wp2_with fail
 refine (XF _ n W3 (HV.o.grow bw.o)).mono ?_
 rintro e w4 ⟨rfl,cD⟩
 have B14:=zh (B1.o.below cD B1.o.lt)
 have B24:=zh (B2.o.below cD B2.o.lt)
 have B34:=zh (B3.o.below cD B3.o.lt)
 have Ob:=zh (bw.o.trans (cD.mono bw.o.size))
 clear B1 B2 B3 bw cD iZ j9
 by_cases hn:n=0
 ·have hs:jd n=0:=by unfold jd;rw[if_pos hn]
  rw[hs]
  have HE:Y0 (Rat.divInt n d=((0:Int):Rat)):=by unfold Y0;rw[hn,uI]
  clear hn hs
  go_wp2_with fail
  refine (eV 0 w4 (by decide) (by decide)).mono ?_
  rintro e w5 ⟨bg,v5,rfl,Ma⟩
  obtain⟨n5,A5,l5,c5,n6,A6,l6,c6,rfl,-,-⟩:=Ma.form
  have Yw:=zh Ma
  have Ck:=zh (B34.o.below bg B34.o.lt)
  have lK:=zh (Ob.o.trans (bg.mono Ob.o.size))
  have q0:=Ck.o.cell 0
  have q1:=Ck.o.cell 1
  have q2:=Ck.o.cell 2
  have q3:=Ck.o.cell 3
  have f0:=Ck.o.frozen 0
  have f1:=Ck.o.frozen 1
  have f2:=Ck.o.frozen 2
  have f3:=Ck.o.frozen 3
  simp only[aP,aQ,aO] at q0 q1 q2 q3
  clear Ma bg B14 B24 B34 Ob
  go_wp2_with fail
  refine YI (v:=.agg (zD n5 A5 l5 c5 n6 A6 l6 c6)) (by simp[results,Tryz.results192,go_sem,q0,q1,q2,q3]) rfl ?_
  exact⟨bC lK.o (by omega) _ _ _ _,_,rfl,by rw[HE.o];exact Yw.o.stored Ck.o _ _ _ _⟩
 have hs:(jd n==0)=false:=by
  unfold jd
  rw[if_neg hn]
  split <;> rfl
 have HN:=zh hn
 obtain⟨jX,jT⟩:=B24.o.c2
 clear hn
 generalize jd n=sn at *
 cases n2
 case' true=>
  have Oq:Y0 (d<0):=(HU.o.parts.2 kA.o).1 rfl
  obtain⟨iZ,j9⟩:=B14.o.c2
  go_wp2_with fail
  have tX:=YL iZ
  have tW:=YL j9
  have Cb:=YL jX
  have vu:=YL jT
  clear iZ j9 jX jT
  refine ag 4 (fun i=>if i=1 then some (gN (-n)) else if i=3 then some (gN (-d)) else none) (by kernel_rfl) (by kernel_rfl) ?_
  simp only[aU,aT,aW,aX]
  refine ae 1 (by kernel_rfl) (by rfl) (by decide) ?_
  simp only[aU,aT,aW,aX]
  repeat (go_big_quiet_step (fail))
  refine YH ?_
  refine af rfl rfl (fun w1 ao _=>⟨196,#[.agg #[.bool n1,.slice A1 l1 c1]],by go_simp,MakesN.g (XI _ n w1 (HV.o.grow (Ob.o.trans (ao.mono Ob.o.size))))⟩) ?_
  rintro v1 ⟨n5,A5,l5,c5,rfl⟩
  simp only[Act.put,aJ,aI,aH]
  refine ae 1 (by kernel_rfl) (by rfl) (by decide) ?_
  simp only[aU,aT,aW,aX]
  repeat (go_big_quiet_step (fail))
  refine YH ?_
  refine af rfl rfl (fun w1 ao _=>⟨196,#[.agg #[.bool true,.slice A2 l2 c2]],by go_simp,MakesN.g (XI _ d w1 (HU.o.grow (Ob.o.trans (ao.mono Ob.o.size))))⟩) ?_
  rintro v2 ⟨n6,A6,l6,c6,rfl⟩
  simp only[Act.put,aJ,aI,aH]
  refine Zc ?_
  intro w5 bg hF
  have Ch:NumAt w5 (.agg #[.bool n5,.slice A5 l5 c5]) (-n):=hF 13
  have h15:NumAt w5 (.agg #[.bool n6,.slice A6 l6 c6]) (-d):=hF 15
  have Z4:=B14.o.below bg B14.o.lt
  have Z3:=B24.o.below bg B24.o.lt
  have B35:=B34.o.below bg B34.o.lt
  have Hb5:=zh (Ob.o.trans (bg.mono Ob.o.size))
  have rO:=Z4.cell 0
  have rN:=Z4.cell 1
  have p20:=Z3.cell 0
  have p21:=Z3.cell 1
  have f10:=Z4.frozen 0
  have f11:=Z4.frozen 1
  have f20:=Z3.frozen 0
  have f21:=Z3.frozen 1
  simp only[aP,aQ,aO] at rO rN p20 p21
  have Z4:=zh Z4
  have Z3:=zh Z3
  have B35:=zh B35
  have H13:=zh Ch
  have H15:=zh h15
  clear hF tX tW Cb vu Ch h15 bg
  go_wp2_with fail
  have WO:=Qk Z4.o Z3.o B35.o (by omega) (by omega) (by omega) (.bool n5) (.slice A5 l5 c5) (.bool n6) (.slice A6 l6 c6)
  have hN5:=H13.o.set2 Z4.o Z3.o (by omega) (by decide) (by decide) (.bool n5) (.slice A5 l5 c5) (.bool n6) (.slice A6 l6 c6)
  have hN6:=H15.o.set2 Z4.o Z3.o (by omega) (by decide) (by decide) (.bool n5) (.slice A5 l5 c5) (.bool n6) (.slice A6 l6 c6)
  have hB6:=(((Hb5.o.setCell (p:=⟨w.heap.size,0,none⟩) (yA _) (.bool n5)).setCell (p:=⟨w.heap.size,1,none⟩) (yA _) (.slice A5 l5 c5)).setCell (p:=⟨w.heap.size+1,0,none⟩) (YK _) (.bool n6)).setCell (p:=⟨w.heap.size+1,1,none⟩) (YK _) (.slice A6 l6 c6)
  have hS:n5=true↔(n<0∧0<d)∨(0<n∧d<0):=by
   have h1:=H13.o.parts.2 (by have:=HN.o;omega)
   have h2:=Oq.o
   rw[h1]
   omega
  have hP:=hN5.parts.1
  have hQ:=hN6.parts.1
  rw[Int.natAbs_neg] at hP hQ
  generalize (((w5.setCell ⟨w.heap.size,0,none⟩ (.bool n5)).setCell ⟨w.heap.size,1,none⟩ (.slice A5 l5 c5)).setCell ⟨w.heap.size+1,0,none⟩ (.bool n6)).setCell ⟨w.heap.size+1,1,none⟩ (.slice A6 l6 c6)=W6 at *
  have K10:=WO.1.cell 0
  have K11:=WO.1.cell 1
  have K21:=WO.2.1.cell 1
  simp only[aP,aQ,aO] at K10 K11 K21
  have B36:=zh WO.2.2
  have lK:=zh hB6
  have HP:=zh hP
  have HQ:=zh hQ
  have HS:=zh hS
  clear WO hN5 hN6 hB6 hS hP hQ rO rN p20 p21 f10 f11 f20 f21 Z4 Z3 B35 H13 H15 Hb5 B14 B24 B34 Ob HV HU Oq
 case' false=>
  have Oq:Y0 (0<d):=by
   have h1:=HU.o.parts.2 kA.o
   have h2:=kA.o
   have h3:¬ d<0:=fun h=>by cases h1.2 h
   unfold Y0
   omega
  have K10:=B14.o.cell 0
  have K11:=B14.o.cell 1
  have K21:=B24.o.cell 1
  simp only[aP,aQ,aO] at K10 K11 K21
  have hS:n1=true↔(n<0∧0<d)∨(0<n∧d<0):=by
   have h1:=HV.o.parts.2 HN.o
   have h2:=Oq.o
   rw[h1]
   omega
  have HP:=zh (HV.o.parts.1.grow Ob.o)
  have HQ:=zh (HU.o.parts.1.grow Ob.o)
  have HS:=zh hS
  have B36:=B34
  have lK:=Ob
  clear hS B14 B24 B34 Ob HV HU Oq jT
  go_wp2_with fail
  clear jX
  obtain⟨W6,rfl⟩:∃ W,W=w4:=⟨_,rfl⟩
  obtain⟨n5,rfl⟩:∃ n5,n5=n1:=⟨_,rfl⟩
  obtain⟨A5,rfl⟩:∃ A5,A5=A1:=⟨_,rfl⟩
  obtain⟨l5,rfl⟩:∃ l5,l5=l1:=⟨_,rfl⟩
  obtain⟨c5,rfl⟩:∃ c5,c5=c1:=⟨_,rfl⟩
  obtain⟨A6,rfl⟩:∃ A6,A6=A2:=⟨_,rfl⟩
  obtain⟨l6,rfl⟩:∃ l6,l6=l2:=⟨_,rfl⟩
  obtain⟨c6,rfl⟩:∃ c6,c6=c2:=⟨_,rfl⟩
 all_goals
  refine (XK _ _ n.natAbs d.natAbs K W6 HP.o HQ.o ME.o HX.o HY.o (Int.natAbs_pos.2 HN.o) (Int.natAbs_pos.2 kA.o)).mono ?_
  rintro e w7 ⟨na,v7,rfl,hW7⟩
  have Za:0<Nat.gcd n.natAbs d.natAbs:=Nat.gcd_pos_of_pos_left _ (Int.natAbs_pos.2 HN.o)
  have hgK:Nat.gcd n.natAbs d.natAbs<4294967296 ^ K:=Nat.lt_of_le_of_lt (Nat.gcd_le_left _ (Int.natAbs_pos.2 HN.o)) HX.o
  have hF:=qxF kA.o HN.o HS.o
  have hF2:=(rS (n:=n) kA.o).2
  generalize Nat.gcd n.natAbs d.natAbs=G at *
  have HG0:=zh Za
  have HGK:=zh hgK
  have HF:=zh hF
  have CB:=zh hF2
  have HW7:=zh hW7
  have HP7:=zh (HP.o.grow na)
  have HQ7:=zh (HQ.o.grow na)
  have HD7:=zh (B36.o.below na B36.o.lt)
  have CG:=zh (lK.o.trans (na.mono lK.o.size))
  obtain⟨⟨A7,c7,L7,rfl,-⟩,-⟩:=hW7
  have k10:=(na.cell (p:=⟨w.heap.size,0,none⟩) (World.block_lt_of_cell? _ _ K10)).trans K10
  have k11:=(na.cell (p:=⟨w.heap.size,1,none⟩) (World.block_lt_of_cell? _ _ K11)).trans K11
  have k21:=(na.cell (p:=⟨w.heap.size+1,1,none⟩) (World.block_lt_of_cell? _ _ K21)).trans K21
  clear K10 K11 K21 Za hgK hF hF2 na HP HQ B36 lK HN kA HS
  go_wp2_with fail
  have tX:=YL k10
  have tW:=YL k11
  have vu:=YL k21
  clear k10 k11 k21
  refine ag 13 (fun i=>if i=5 then some (gW (n.natAbs / G)) else if i=10 then some (gW (d.natAbs / G)) else none) (by kernel_rfl) (by kernel_rfl) ?_
  simp only[aU,aT,aW,aX]
  refine ae 5 (by kernel_rfl) (by rfl) (by decide) ?_
  simp only[aU,aT,aW,aX]
  repeat (go_big_quiet_step (fail))
  refine YH ?_
  refine af rfl rfl (fun w1 ao _=>⟨216,#[.slice A5 l5 c5,.slice A7 L7.length c7],by go_simp,MakesW.g (qx2 _ _ n.natAbs G K w1 (HP7.o.grow ao) (HW7.o.grow ao) ME.o HX.o HGK.o HG0.o)⟩) ?_
  rintro v1 ⟨A8,l8,c8,rfl⟩
  simp only[Act.put,aJ,aI,aH]
  refine ae 4 (by kernel_rfl) (by rfl) (by decide) ?_
  simp only[aU,aT,aW,aX]
  repeat (go_big_quiet_step (fail))
  refine YH ?_
  refine af rfl rfl (fun w1 ao _=>⟨216,#[.slice A6 l6 c6,.slice A7 L7.length c7],by go_simp,MakesW.g (qx2 _ _ d.natAbs G K w1 (HQ7.o.grow ao) (HW7.o.grow ao) ME.o HY.o HGK.o HG0.o)⟩) ?_
  rintro v2 ⟨A9,l9,c9,rfl⟩
  simp only[Act.put,aJ,aI,aH]
  refine ae 2 (by kernel_rfl) (by rfl) (by decide) ?_
  simp only[aU,aT,aW,aX]
  repeat (go_big_quiet_step (fail))
  refine YH ?_
  refine Zc ?_
  intro w8 aM hF
  have jB:WAt w8 (.slice A8 l8 c8) (n.natAbs / G):=hF 26
  have Zp:WAt w8 (.slice A9 l9 c9) (d.natAbs / G):=hF 31
  have H26:=zh jB
  have H31:=zh Zp
  have bj:=zh (HD7.o.below aM HD7.o.lt)
  have dP:=zh (CG.o.trans (aM.mono CG.o.size))
  have q0:=bj.o.cell 0
  have q1:=bj.o.cell 1
  have q2:=bj.o.cell 2
  have q3:=bj.o.cell 3
  have f0:=bj.o.frozen 0
  have f1:=bj.o.frozen 1
  have f2:=bj.o.frozen 2
  have f3:=bj.o.frozen 3
  simp only[aP,aQ,aO] at q0 q1 q2 q3
  clear hF tX tW vu jB Zp aM HD7 CG
  go_wp2_with fail
  refine YI (v:=.agg (zD n5 A8 l8 c8 false A9 l9 c9)) (by simp[results,Tryz.results192,go_sem,q0,q1,q2,q3]) rfl ?_
  have hE:ExactAt w8 (.agg (zD n5 A8 l8 c8 false A9 l9 c9)) (Rat.divInt n d) :=
   ⟨n5,_,false,_,rfl,⟨n5,_,_,rfl,H26.o,HF.o⟩,⟨false,_,_,rfl,H31.o,by rw[CB.o];rfl⟩⟩
  exact⟨bC dP.o (by omega) _ _ _ _,_,rfl,hE.stored bj.o _ _ _ _⟩
def ju (q:Rat):Bool:=decide (q.num.natAbs≤1152921504606846976)&&decide (q.den≤1152921504606846976)
def jO (q:Rat):Value:=if ju q=true then .tuple #[.agg #[.int .i64 q.num,.int .i64 (q.den:Int)],.int .i64 0] else .tuple #[.agg #[.int .i64 0,.int .i64 0],.int .i64 5]
def frX (x:Rat) (i:Int):Nat:=if 1≤i then x.num.natAbs else 0
def frY (x:Rat) (i:Int):Nat:=if 2≤i then x.den else 0
def frC (x:Rat) (i:Int):Prop:=(1≤i→x.num.natAbs≤1152921504606846976)∧(2≤i→x.den≤1152921504606846976)
structure FrSt (w wr:World) (b1 b2:Bool) (s1 s2:Value) (x0 x1:Nat):Prop where
 a:Blk wr w.heap.size 195 #[.bool b1,s1,.bool b2,s2]
 r:Blk wr (w.heap.size+1) 82 #[.int .i64 0,.int .i64 0]
 n:Blk wr (w.heap.size+1+1) 231 #[.int .u64 (x0:Int),.int .u64 (x1:Int)]
 b:Below w.heap.size w wr
theorem FrSt.alloc {w wr:World} {b1 b2:Bool} {s1 s2:Value} {x0 x1:Nat} (h:FrSt w wr b1 b2 s1 s2 x0 x1) (o:Obj):FrSt w (wr.alloc o) b1 b2 s1 s2 x0 x1 :=
 ⟨h.a.alloc o,h.r.alloc o,h.n.alloc o,h.b.alloc h.b.size o⟩
theorem FrSt.set0 {w wr:World} {b1 b2:Bool} {s1 s2:Value} {x0 x1:Nat} (h:FrSt w wr b1 b2 s1 s2 x0 x1) (y:Nat):FrSt w (wr.setCell ⟨w.heap.size+1+1,0,none⟩ (.int .u64 (y:Int))) b1 b2 s1 s2 y x1 :=
 ⟨h.a.far (p:=⟨w.heap.size+1+1,0,none⟩) (by show w.heap.size≠w.heap.size+1+1;omega) _,h.r.far (p:=⟨w.heap.size+1+1,0,none⟩) (by show w.heap.size+1≠w.heap.size+1+1;omega) _,h.n.set_ 0 _,h.b.setCell (p:=⟨w.heap.size+1+1,0,none⟩) (by show w.heap.size≤w.heap.size+1+1;omega) _⟩
theorem FrSt.set1 {w wr:World} {b1 b2:Bool} {s1 s2:Value} {x0 x1:Nat} (h:FrSt w wr b1 b2 s1 s2 x0 x1) (y:Nat):FrSt w (wr.setCell ⟨w.heap.size+1+1,1,none⟩ (.int .u64 (y:Int))) b1 b2 s1 s2 x0 y :=
 ⟨h.a.far (p:=⟨w.heap.size+1+1,1,none⟩) (by show w.heap.size≠w.heap.size+1+1;omega) _,h.r.far (p:=⟨w.heap.size+1+1,1,none⟩) (by show w.heap.size+1≠w.heap.size+1+1;omega) _,h.n.set_ 1 _,h.b.setCell (p:=⟨w.heap.size+1+1,1,none⟩) (by show w.heap.size≤w.heap.size+1+1;omega) _⟩
theorem FrSt.drew {w wr:World} {b1 b2:Bool} {s1 s2:Value} {x0 x1:Nat} (h:FrSt w wr b1 b2 s1 s2 x0 x1):FrSt w wr.drew b1 b2 s1 s2 x0 x1:=⟨h.a,h.r,h.n,h.b.drew⟩
theorem WAt.long {w:World} {A:Option Addr} {l c z:Nat} (h:WAt w (.slice A l c) z) (hl:2<l):18446744073709551616≤z:=by
 obtain⟨⟨A',c',L,e,_,_,LY,rfl⟩,-⟩:=h
 injection e with _ e2 _
 subst e2
 have h1:=MM LY (fun e=>by rw[e] at hl;simp at hl)
 have h2:4294967296 ^ 2≤4294967296 ^ (L.length-1):=Nat.pow_le_pow_right (by decide) (by omega)
 omega
theorem WAt.words {w:World} {A:Option Addr} {l c z:Nat} (h:WAt w (.slice A l c) z):∃ L,L.length=l∧Wok L∧wv L=z∧∀ k,k<l→∃ b off,A=some ⟨b,off,none⟩∧w.cell? ⟨b,off+k,none⟩=some (.int .u32 ((aZ L k:Nat):Int)):=by
 obtain⟨⟨A',c',L,e,hl,LZ,_,rfl⟩,-⟩:=h
 injection e with e1 e2 e3
 subst e1 e2 e3
 obtain⟨_,_,e,_,_,ah⟩:=hl.open_
 injection e with e1 _ e2
 subst e1 e2
 refine⟨L,rfl,LZ,rfl,fun k hk=>?_⟩
 obtain⟨b,off,rfl,-,hx⟩:=ah k hk
 exact⟨b,off,rfl,by rw[cH hk];exact hx k hk⟩
theorem vG {x:Rat} (h:1152921504606846976<x.num.natAbs∨1152921504606846976<x.den):jO x = .tuple #[.agg #[.int .i64 0,.int .i64 0],.int .i64 5]:=by
 unfold jO
 rw[if_neg]
 unfold ju
 simp only[Bool.and_eq_true,decide_eq_true_eq]
 omega
theorem Xi {x:Rat} (h1:x.num.natAbs≤1152921504606846976) (h2:x.den≤1152921504606846976):jO x = .tuple #[.agg #[.int .i64 x.num,.int .i64 (x.den:Int)],.int .i64 0]:=by
 unfold jO
 rw[if_pos]
 unfold ju
 simp only[Bool.and_eq_true,decide_eq_true_eq]
 exact⟨h1,h2⟩
theorem Nq {f:Nat→Nat} (hf:∀ i,f i<4294967296) {k:Nat} (hk:k≤1):bits .or .u64 ((aA f k:Nat):Int) (IntKind.u64.wrap (((f k:Nat):Int)*2 ^ (32*k)))=((aA f (k+1):Nat):Int):=by
 have h0:=hf 0
 have h1:=hf 1
 have ew:∀ n:Int,IntKind.u64.wrap n=n % 18446744073709551616:=fun n=>by simp[IntKind.wrap,IntKind.bits,IntKind.signed]
 obtain rfl | rfl:k=0∨k=1:=by omega
 ·have e:IntKind.u64.wrap (((f 0:Nat):Int)*2 ^ (32*0))=((f 0:Nat):Int):=by rw[ew,Nat.mul_zero,Int.pow_zero,Int.mul_one];omega
  have e0:aA f 0=0:=rfl
  rw[e,e0,bits_or_u64_nat 0 (f 0) (by decide) (by omega)]
  show (((0 ||| f 0:Nat)):Int)=((0+4294967296 ^ 0*f 0:Nat):Int)
  rw[Nat.zero_or,Nat.pow_zero,Nat.one_mul,yR]
 have e:IntKind.u64.wrap (((f 1:Nat):Int)*2 ^ (32*1))=((4294967296*f 1:Nat):Int):=by rw[ew];omega
 have e2:aA f 1=f 0:=by show 0+4294967296 ^ 0*f 0=_;rw[Nat.pow_zero,Nat.one_mul,yR]
 rw[e,e2,bits_or_u64_nat _ _ (by omega) (by omega)]
 show _=((aA f 1+4294967296 ^ 1*f 1:Nat):Int)
 have h:=Nat.two_pow_add_eq_or_of_lt (i:=32) (b:=f 0) (by omega) (f 1)
 have e3:(2:Nat) ^ 32=4294967296:=by decide
 rw[e3] at h
 rw[e2,Nat.or_comm,← h,Nat.pow_one,Nat.add_comm]
theorem qx1 (v:Value) (x:Rat) (w:World) (hv:ExactAt w v x):Calls Tryz.prog 155 #[v] w fun e w'=>e = .returned (jO x)∧Below w.heap.size w w':=by
 obtain⟨b1,A1,l1,c1,b2,A2,l2,c2,rfl,cW,cT⟩:=hv.form
 have DZ:=zh cW
 have vk:=zh cT
 clear hv cW cT
 go_enter Tryz.func155,Tryz.ntmps155
 go_wp2_with fail
 have aS:Y0 (FrSt w (((w.alloc (.cells (zD b1 A1 l1 c1 b2 A2 l2 c2) 195)).alloc (.cells #[.int .i64 0,.int .i64 0] 82)).alloc (.cells #[.int .u64 0,.int .u64 0] 231)) b1 b2 (.slice A1 l1 c1) (.slice A2 l2 c2) (frX x 0) (frY x 0)):=by
  obtain⟨h1,h2,h3,h4⟩:=cf w 195 82 231 (zD b1 A1 l1 c1 b2 A2 l2 c2) #[.int .i64 0,.int .i64 0] #[.int .u64 0,.int .u64 0]
  exact⟨h1,h2,h3,h4⟩
 have i0:∀ w',(Instr.index 232 (.agg (zD b1 A1 l1 c1 b2 A2 l2 c2)) (.int .i64 0)).run Tryz.prog w' = .ok (.agg #[.bool b1,.slice A1 l1 c1]) w':=fun _=>by kernel_rfl
 have i1:∀ w',(Instr.index 232 (.agg (zD b1 A1 l1 c1 b2 A2 l2 c2)) (.int .i64 1)).run Tryz.prog w' = .ok (.agg #[.bool b2,.slice A2 l2 c2]) w':=fun _=>by kernel_rfl
 go_loopw [15] (fun ix wr=>∃ i:Int,(i=0∨i=1∨i=2)∧ix = .int .i64 i∧Y0 (FrSt w wr b1 b2 (.slice A1 l1 c1) (.slice A2 l2 c2) (frX x i) (frY x i))∧Y0 (frC x i)) (fun ix _=>(2-intOf ix).toNat)
 case atStart=>exact⟨0,.inl rfl,rfl,aS,⟨fun h=>absurd h (by decide),fun h=>absurd h (by decide)⟩⟩
 clear aS
 obtain⟨i,hi,rfl,aS,HC⟩:=hrel
 rcases hi with rfl | rfl | rfl
 ·have HW:Y0 (WAt wr (.slice A1 l1 c1) x.num.natAbs):=DZ.o.parts.1.grow aS.o.b
  have pd:=zh (aS.o.alloc (.cells #[.bool b1,.slice A1 l1 c1] 193))
  have Yi:=zh (HW.o.grow ((yB _ wr).alloc (yA _) (.cells #[.bool b1,.slice A1 l1 c1] 193)))
  clear aS HW
  by_cases hl:2<l1
  ·have q0:=pd.o.r.cell 0
   have q1:=pd.o.r.cell 1
   have f0:=pd.o.r.frozen 0
   have f1:=pd.o.r.frozen 1
   simp only[aP,aQ,aO] at q0 q1
   have HV:Y0 (jO x = .tuple #[.agg #[.int .i64 0,.int .i64 0],.int .i64 5]):=vG (.inl (yK (by decide) (Yi.o.long hl)))
   have hli:2<(l1:Int):=by omega
   clear hl
   go_wp2_with fail
   generalize wr.alloc (.cells #[.bool b1,.slice A1 l1 c1] 193)=W1 at *
   refine YI (v:=.tuple #[.agg #[.int .i64 0,.int .i64 0],.int .i64 5]) (by simp[results,Tryz.results155,go_sem,q0,q1]) rfl ?_
   exact⟨by rw[HV.o],(pd.o.b.setCell (p:=⟨w.heap.size+1,0,none⟩) (YK _) _).setCell (p:=⟨w.heap.size+1,1,none⟩) (YK _) _⟩
  have hli:(l1:Int)≤2:=by omega
  obtain⟨L,PK,PI,hL3,hL4⟩:=DZ.o.parts.1.words
  have HL2:=zh PI
  have HL3:=zh hL3
  have HL4:=zh hL4
  have rW:l1≤2:=by omega
  have HLl:=zh PK
  clear hl PI hL3 hL4 PK
  go_wp2_with fail
  obtain⟨wo,rfl⟩:∃ wo:World,wo=wr:=⟨_,rfl⟩
  obtain⟨W1,gT⟩:∃ W1,wo.alloc (.cells #[.bool b1,.slice A1 l1 c1] 193)=W1:=⟨_,rfl⟩
  rw[gT] at pd Yi
  simp only[gT]
  clear gT
  go_loopw [27] (fun kx wr=>∃ k:Nat,k≤l1∧kx = .int .i64 k∧Y0 (FrSt w wr b1 b2 (.slice A1 l1 c1) (.slice A2 l2 c2) (aA (aZ L) k) (frY x 0)) ) (fun kx _=>l1-(intOf kx).toNat)
  case atStart=>exact⟨0,yI _,rfl,pd⟩
  clear pd
  obtain⟨k,hk,rfl,aS⟩:=hrel
  have k0:(0:Int)≤(k:Int):=yE _
  by_cases aB:k<l1
  ·have k1:(k:Int)<(l1:Int):=by omega
   have k2:(32*(k:Int)).toNat=32*k:=by omega
   obtain⟨bb,oo,rfl,hx⟩:=HL4.o k aB
   have hx:=(aS.o.b.cell (p:=⟨bb,oo+k,none⟩) (World.block_lt_of_cell? _ _ hx)).trans hx
   have x0:aZ L k<4294967296:=iH HL2.o k
   have HOr:=zh (Nq (f:=aZ L) (fun i=>iH HL2.o i) (show k≤1 by omega))
   have z1:=aS.o.n.cell 0
   have z2:=aS.o.n.frozen 0
   simp only[aP,aO] at z1
   obtain⟨S2,WK⟩:∃ S2,aA (aZ L) (k+1)=S2:=⟨_,rfl⟩
   rw[WK] at HOr
   have gx:=zh WK
   clear WK
   generalize aA (aZ L) k=S1 at *
   generalize aZ L k=x1 at *
   have x2:(x1:Int)<4294967296:=by omega
   have x3:(0:Int)≤(x1:Int):=yE _
   go_wp2_with fail
   refine fL 10 (by kernel_rfl) (by kernel_rfl) ?_
   simp only[aU,aT,aW,aX]
   repeat (go_big_quiet_step (fail))
   refine YH ?_
   go_wp2_with fail
   rw[HOr.o]
   have gD:=zh ((aS.o.set0 S2).drew)
   clear aS z1 z2 hx
   go_roundw
   case rel=>exact⟨k+1,by omega,by go_num,by rw[gx.o];exact gD⟩
   simp[intOf];omega
  obtain rfl:k=l1:=by omega
  have HZ:Y0 (aA (aZ L) k=x.num.natAbs):=by
   unfold Y0
   rw[← HLl.o]
   exact HL3.o
  rw[HZ.o] at aS
  have z1:=aS.o.n.cell 0
  simp only[aP,aO] at z1
  clear HZ HL2 HL3 HL4 HLl Yi
  by_cases Bq:1152921504606846976<x.num.natAbs
  ·have HV:Y0 (jO x = .tuple #[.agg #[.int .i64 0,.int .i64 0],.int .i64 5]):=vG (.inl Bq)
   have q0:=aS.o.r.cell 0
   have q1:=aS.o.r.cell 1
   have f0:=aS.o.r.frozen 0
   have f1:=aS.o.r.frozen 1
   simp only[aP,aQ,aO] at q0 q1
   have hd:decide (1152921504606846976<((x.num.natAbs:Nat):Int))=true:=yD (by omega)
   have im:decide (1152921504606846976<x.num.natAbs)=true:=yD Bq
   clear Bq
   go_wp2_with fail
   refine YI (v:=.tuple #[.agg #[.int .i64 0,.int .i64 0],.int .i64 5]) (by simp[results,Tryz.results155,go_sem,q0,q1]) rfl ?_
   exact⟨by rw[HV.o],(aS.o.b.setCell (p:=⟨w.heap.size+1,0,none⟩) (YK _) _).setCell (p:=⟨w.heap.size+1,1,none⟩) (YK _) _⟩
  have hd:decide (1152921504606846976<((x.num.natAbs:Nat):Int))=false:=yC (by omega)
  have im:decide (1152921504606846976<x.num.natAbs)=false:=yC Bq
  have HC5:Y0 (frC x 1):=⟨fun _=>by omega,fun h=>absurd h (by decide)⟩
  clear Bq
  go_wp2_with fail
  clear z1
  go_roundw
  case rel=>exact⟨1,.inr (.inl rfl),rfl,aS,HC5⟩
  simp[intOf]
 ·have HW:Y0 (WAt wr (.slice A2 l2 c2) x.den):=(Int.natAbs_natCast x.den)▸vk.o.parts.1.grow aS.o.b
  have pd:=zh (aS.o.alloc (.cells #[.bool b2,.slice A2 l2 c2] 193))
  have Yi:=zh (HW.o.grow ((yB _ wr).alloc (yA _) (.cells #[.bool b2,.slice A2 l2 c2] 193)))
  clear aS HW
  by_cases hl:2<l2
  ·have q0:=pd.o.r.cell 0
   have q1:=pd.o.r.cell 1
   have f0:=pd.o.r.frozen 0
   have f1:=pd.o.r.frozen 1
   simp only[aP,aQ,aO] at q0 q1
   have HV:Y0 (jO x = .tuple #[.agg #[.int .i64 0,.int .i64 0],.int .i64 5]):=vG (.inr (yK (by decide) (Yi.o.long hl)))
   have hli:2<(l2:Int):=by omega
   clear hl
   go_wp2_with fail
   generalize wr.alloc (.cells #[.bool b2,.slice A2 l2 c2] 193)=W1 at *
   refine YI (v:=.tuple #[.agg #[.int .i64 0,.int .i64 0],.int .i64 5]) (by simp[results,Tryz.results155,go_sem,q0,q1]) rfl ?_
   exact⟨by rw[HV.o],(pd.o.b.setCell (p:=⟨w.heap.size+1,0,none⟩) (YK _) _).setCell (p:=⟨w.heap.size+1,1,none⟩) (YK _) _⟩
  have hli:(l2:Int)≤2:=by omega
  obtain⟨L,PK,PI,hL3,hL4⟩:=vk.o.parts.1.words
  have HL2:=zh PI
  have HL3:=zh hL3
  have HL4:=zh hL4
  have rW:l2≤2:=by omega
  have HLl:=zh PK
  clear hl PI hL3 hL4 PK
  go_wp2_with fail
  obtain⟨wo,rfl⟩:∃ wo:World,wo=wr:=⟨_,rfl⟩
  obtain⟨W1,gT⟩:∃ W1,wo.alloc (.cells #[.bool b2,.slice A2 l2 c2] 193)=W1:=⟨_,rfl⟩
  rw[gT] at pd Yi
  simp only[gT]
  clear gT
  go_loopw [27] (fun kx wr=>∃ k:Nat,k≤l2∧kx = .int .i64 k∧Y0 (FrSt w wr b1 b2 (.slice A1 l1 c1) (.slice A2 l2 c2) (frX x 1) (aA (aZ L) k)) ) (fun kx _=>l2-(intOf kx).toNat)
  case atStart=>exact⟨0,yI _,rfl,pd⟩
  clear pd
  obtain⟨k,hk,rfl,aS⟩:=hrel
  have k0:(0:Int)≤(k:Int):=yE _
  by_cases aB:k<l2
  ·have k1:(k:Int)<(l2:Int):=by omega
   have k2:(32*(k:Int)).toNat=32*k:=by omega
   obtain⟨bb,oo,rfl,hx⟩:=HL4.o k aB
   have hx:=(aS.o.b.cell (p:=⟨bb,oo+k,none⟩) (World.block_lt_of_cell? _ _ hx)).trans hx
   have x0:aZ L k<4294967296:=iH HL2.o k
   have HOr:=zh (Nq (f:=aZ L) (fun i=>iH HL2.o i) (show k≤1 by omega))
   have z1:=aS.o.n.cell 1
   have z2:=aS.o.n.frozen 1
   simp only[aP,aQ,aO] at z1
   obtain⟨S2,WK⟩:∃ S2,aA (aZ L) (k+1)=S2:=⟨_,rfl⟩
   rw[WK] at HOr
   have gx:=zh WK
   clear WK
   generalize aA (aZ L) k=S1 at *
   generalize aZ L k=x1 at *
   have x2:(x1:Int)<4294967296:=by omega
   have x3:(0:Int)≤(x1:Int):=yE _
   go_wp2_with fail
   refine fL 10 (by kernel_rfl) (by kernel_rfl) ?_
   simp only[aU,aT,aW,aX]
   repeat (go_big_quiet_step (fail))
   refine YH ?_
   go_wp2_with fail
   rw[HOr.o]
   have gD:=zh ((aS.o.set1 S2).drew)
   clear aS z1 z2 hx
   go_roundw
   case rel=>exact⟨k+1,by omega,by go_num,by rw[gx.o];exact gD⟩
   simp[intOf];omega
  obtain rfl:k=l2:=by omega
  have HZ:Y0 (aA (aZ L) k=x.den):=by
   unfold Y0
   rw[← HLl.o]
   exact HL3.o
  rw[HZ.o] at aS
  have z1:=aS.o.n.cell 1
  simp only[aP,aQ,aO] at z1
  clear HZ HL2 HL3 HL4 HLl Yi
  by_cases Bq:1152921504606846976<x.den
  ·have HV:Y0 (jO x = .tuple #[.agg #[.int .i64 0,.int .i64 0],.int .i64 5]):=vG (.inr Bq)
   have q0:=aS.o.r.cell 0
   have q1:=aS.o.r.cell 1
   have f0:=aS.o.r.frozen 0
   have f1:=aS.o.r.frozen 1
   simp only[aP,aQ,aO] at q0 q1
   have hd:decide (1152921504606846976<((x.den:Nat):Int))=true:=yD (by omega)
   have im:decide (1152921504606846976<x.den)=true:=yD Bq
   clear Bq
   go_wp2_with fail
   refine YI (v:=.tuple #[.agg #[.int .i64 0,.int .i64 0],.int .i64 5]) (by simp[results,Tryz.results155,go_sem,q0,q1]) rfl ?_
   exact⟨by rw[HV.o],(aS.o.b.setCell (p:=⟨w.heap.size+1,0,none⟩) (YK _) _).setCell (p:=⟨w.heap.size+1,1,none⟩) (YK _) _⟩
  have hd:decide (1152921504606846976<((x.den:Nat):Int))=false:=yC (by omega)
  have im:decide (1152921504606846976<x.den)=false:=yC Bq
  have HC5:Y0 (frC x 2):=⟨fun _=>HC.o.1 (by decide),fun _=>by omega⟩
  clear Bq
  go_wp2_with fail
  clear z1
  go_roundw
  case rel=>exact⟨2,.inr (.inr rfl),rfl,aS,HC5⟩
  simp[intOf]
 obtain⟨n0,n1⟩:=aS.o.n.c2
 have m1:((frX x 2:Nat):Int)≤1152921504606846976:=by have:=HC.o.1 (by decide);show (((if (1:Int)≤2 then x.num.natAbs else 0:Nat)):Int)≤_;rw[if_pos (by decide)];omega
 have m2:((frY x 2:Nat):Int)≤1152921504606846976:=by have:=HC.o.2 (by decide);show (((if (2:Int)≤2 then x.den else 0:Nat)):Int)≤_;rw[if_pos (by decide)];omega
 have HV:Y0 (jO x = .tuple #[.agg #[.int .i64 x.num,.int .i64 ((frY x 2:Nat):Int)],.int .i64 0]):=Xi (HC.o.1 (by decide)) (HC.o.2 (by decide))
 have HN:Y0 (x.num=if b1=true then -((frX x 2:Nat):Int) else ((frX x 2:Nat):Int)):=by
  obtain⟨neg,s',m,e,h2,h3⟩:=DZ.o
  simp only[Value.agg.injEq,Array.mk.injEq,List.cons.injEq,and_true,Value.bool.injEq] at e
  have hm:x.num.natAbs=m:=by rw[h3];cases neg <;> simp
  show x.num=if b1=true then -((x.num.natAbs:Nat):Int) else ((x.num.natAbs:Nat):Int)
  rw[e.1,hm]
  exact h3
 have m3:(0:Int)≤((frX x 2:Nat):Int):=yE _
 have m4:(0:Int)≤((frY x 2:Nat):Int):=yE _
 generalize ((frX x 2:Nat):Int)=X at *
 generalize ((frY x 2:Nat):Int)=Y at *
 cases b1
 ·have HA:=aS.o.alloc (.cells #[.int .i64 (X),.int .i64 Y] 82)
  have a0:=HA.a.cell 0
  have r0:=HA.r.cell 0
  have r1:=HA.r.cell 1
  have g0:=HA.r.frozen 0
  have g1:=HA.r.frozen 1
  simp only[aP,aQ,aO] at a0 r0 r1
  have HA:=zh HA
  go_wp2_with fail
  refine YI (v:=.tuple #[.agg #[.int .i64 (X),.int .i64 Y],.int .i64 0]) (by simp[results,Tryz.results155,go_sem,r0,r1]) rfl ?_
  exact⟨by rw[HV.o,HN.o];rfl,(HA.o.b.setCell (p:=⟨w.heap.size+1,0,none⟩) (YK _) _).setCell (p:=⟨w.heap.size+1,1,none⟩) (YK _) _⟩
 have HA:=aS.o.alloc (.cells #[.int .i64 (X),.int .i64 Y] 82)
 have a0:=HA.a.cell 0
 have r0:=HA.r.cell 0
 have r1:=HA.r.cell 1
 have g0:=HA.r.frozen 0
 have g1:=HA.r.frozen 1
 simp only[aP,aQ,aO] at a0 r0 r1
 have HA:=zh HA
 have HAn:=aS.o.alloc (.cells #[.int .i64 (-X),.int .i64 Y] 82)
 have a0n:=HAn.a.cell 0
 have r0n:=HAn.r.cell 0
 have r1n:=HAn.r.cell 1
 have g0n:=HAn.r.frozen 0
 have g1n:=HAn.r.frozen 1
 simp only[aP,aQ,aO] at a0n r0n r1n
 have HAn:=zh HAn
 go_wp2_with fail
 refine YI (v:=.tuple #[.agg #[.int .i64 (-X),.int .i64 Y],.int .i64 0]) (by simp[results,Tryz.results155,go_sem,r0n,r1n]) rfl ?_
 exact⟨by rw[HV.o,HN.o];rfl,(HAn.o.b.setCell (p:=⟨w.heap.size+1,0,none⟩) (YK _) _).setCell (p:=⟨w.heap.size+1,1,none⟩) (YK _) _⟩
theorem fm {a K M:Nat} (h:a<4294967296 ^ K) (hM:K≤M):a<4294967296 ^ M:=yK h (Nat.pow_le_pow_right (by decide) hM)
theorem ey {n K:Nat} (h:n<4294967296 ^ K):(n:Int).natAbs<4294967296 ^ K:=by rw[Int.natAbs_natCast];exact h
theorem qqz {x y:Int} {K:Nat} (hx:x.natAbs<4294967296 ^ K) (hy:y.natAbs<4294967296 ^ K):(x+y).natAbs<4294967296 ^ (K+1):=by
 have h:=Int.natAbs_add_le x y
 rw[yW]
 omega
theorem du (v u:Value) (x y:Rat) (K M:Nat) (w:World) (hv:ExactAt w v x) (hu:ExactAt w u y) (hx:bT x K) (hy:bT y M) (hK:K+M+1≤400000) :
  Calls Tryz.prog 157 #[v,u] w (MakesE (x+y) w):=by
 obtain⟨fJ,fK,fH,fI,fw,fx,fu,fv,rfl,cW,cT⟩:=hv.form
 obtain⟨kl,ko,ki,kj,jI,jJ,jG,jH,rfl,Be,Bd⟩:=hu.form
 have HV:=zh hv
 have HU:=zh hu
 have HX:=zh hx
 have HY:=zh hy
 have rm:=zh (fE hx.1 (ey hy.2))
 have gx:Y0 ((y.num*(x.den:Int)).natAbs<4294967296 ^ (K+M)):=by
  unfold Y0
  rw[Nat.add_comm]
  exact fE hy.1 (ey hx.2)
 have jS:=zh (qqz rm.o gx.o)
 have iW:Y0 (((x.den:Int)*(y.den:Int)).natAbs<4294967296 ^ (K+M+1)):=fm (fE (ey hx.2) (ey hy.2)) (YK _)
 have HD:Y0 ((x.den:Int)*(y.den:Int)≠0):=Int.mul_ne_zero (tK x) (tK y)
 have HE:Y0 (Rat.divInt (x.num*(y.den:Int)+y.num*(x.den:Int)) ((x.den:Int)*(y.den:Int))=x+y):=by
  unfold Y0
  rw[MV,Int.natCast_mul]
 have DZ:=zh cW
 have vk:=zh cT
 have My:=zh Be
 have JJ:=zh Bd
 have HK:=zh hK
 have po:=zh (cf w 195 195 195 (zD fJ fK fH fI fw fx fu fv) (zD kl ko ki kj jI jJ jG jH) (zD false none 0 0 false none 0 0))
 clear hv hu cW cT Be Bd hx hy hK
 go_enter Tryz.func157,Tryz.ntmps157
 go_wp2_with fail
 generalize ((w.alloc (.cells (zD fJ fK fH fI fw fx fu fv) 195)).alloc (.cells (zD kl ko ki kj jI jJ jG jH) 195)).alloc (.cells (zD false none 0 0 false none 0 0) 195)=W3 at *
 obtain⟨B1,B2,B3,bw⟩:=po.o
 have iZ:=B1.cell 0
 have j9:=B1.cell 1
 have mY:=B1.cell 2
 have ow:=B1.cell 3
 have jX:=B2.cell 0
 have jT:=B2.cell 1
 have qz:=B2.cell 2
 have qy:=B2.cell 3
 simp only[aP,aQ,aO] at iZ j9 mY ow jX jT qz qy
 have tX:=YL iZ
 have tW:=YL j9
 have FW:=YL mY
 have Ku:=YL ow
 have Cb:=YL jX
 have vu:=YL jT
 have Kt:=YL qz
 have Ks:=YL qy
 have B3:=zh B3
 have bw:=zh bw
 clear po B1 B2 iZ j9 mY ow jX jT qz qy
 refine ag 17 (fun i=>if i=4 then some (gN (x.num*(y.den:Int))) else if i=9 then some (gN (y.num*(x.den:Int))) else if i=10 then some (gN (x.num*(y.den:Int)+y.num*(x.den:Int))) else if i=15 then some (gN ((x.den:Int)*(y.den:Int))) else if i=16 then some (gE (x+y)) else none) (by kernel_rfl) (by kernel_rfl) ?_
 simp only[aU,aT,aW,aX]
 refine ae 4 (by kernel_rfl) (by rfl) (by decide) ?_
 simp only[aU,aT,aW,aX]
 repeat (go_big_quiet_step (fail))
 refine YH ?_
 refine af rfl rfl ?_ ?_
 ·intro w1 ao hk
  have hb:=bw.o.trans (ao.mono bw.o.size)
  have hC:=MakesN.g (lH _ _ _ _ (K+M) w1 (DZ.o.grow hb) (JJ.o.grow hb) (by have:=HK.o;omega) ((fm HX.o.1 (Nat.le_add_right K M))) ((fm (ey HY.o.2) (Nat.le_add_left M K))))
  exact⟨193,#[.agg #[.bool fJ,.slice fK fH fI],.agg #[.bool jI,.slice jJ jG jH]],by go_simp,hC⟩
 rintro _ ⟨Et,Eu,r9l,Es,rfl⟩
 simp only[Act.put,aJ,aI,aH]
 refine ae 4 (by kernel_rfl) (by rfl) (by decide) ?_
 simp only[aU,aT,aW,aX]
 repeat (go_big_quiet_step (fail))
 refine YH ?_
 refine af rfl rfl ?_ ?_
 ·intro w1 ao hk
  have hb:=bw.o.trans (ao.mono bw.o.size)
  have hC:=MakesN.g (lH _ _ _ _ (K+M) w1 (My.o.grow hb) (vk.o.grow hb) (by have:=HK.o;omega) ((fm HY.o.1 (Nat.le_add_left M K))) ((fm (ey HX.o.2) (Nat.le_add_right K M))))
  exact⟨193,#[.agg #[.bool kl,.slice ko ki kj],.agg #[.bool fw,.slice fx fu fv]],by go_simp,hC⟩
 rintro _ ⟨mJ,mK,Is,mI,rfl⟩
 simp only[Act.put,aJ,aI,aH]
 refine af rfl rfl ?_ ?_
 ·intro w1 ao hk
  have hb:=bw.o.trans (ao.mono bw.o.size)
  have h9:NumAt w1 (.agg #[.bool Et,.slice Eu r9l Es]) (x.num*(y.den:Int)):=hk 9 (by decide)
  have QN:NumAt w1 (.agg #[.bool mJ,.slice mK Is mI]) (y.num*(x.den:Int)):=hk 14 (by decide)
  have hC:=MakesN.g (qx0 _ _ _ _ (K+M) w1 h9 QN (by have:=HK.o;omega) rm.o gx.o)
  exact⟨194,#[.agg #[.bool Et,.slice Eu r9l Es],.agg #[.bool mJ,.slice mK Is mI]],by go_simp,hC⟩
 rintro _ ⟨OR,OS,qju,OQ,rfl⟩
 simp only[Act.put,aJ,aI,aH]
 refine ae 4 (by kernel_rfl) (by rfl) (by decide) ?_
 simp only[aU,aT,aW,aX]
 repeat (go_big_quiet_step (fail))
 refine YH ?_
 refine af rfl rfl ?_ ?_
 ·intro w1 ao hk
  have hb:=bw.o.trans (ao.mono bw.o.size)
  have hC:=MakesN.g (lH _ _ _ _ (K+M) w1 (vk.o.grow hb) (JJ.o.grow hb) (by have:=HK.o;omega) ((fm (ey HX.o.2) (Nat.le_add_right K M))) ((fm (ey HY.o.2) (Nat.le_add_left M K))))
  exact⟨193,#[.agg #[.bool fw,.slice fx fu fv],.agg #[.bool jI,.slice jJ jG jH]],by go_simp,hC⟩
 rintro _ ⟨OO,OP,qjt,OM,rfl⟩
 simp only[Act.put,aJ,aI,aH]
 refine af rfl rfl ?_ ?_
 ·intro w1 ao hk
  have hb:=bw.o.trans (ao.mono bw.o.size)
  have h15:NumAt w1 (.agg #[.bool OR,.slice OS qju OQ]) (x.num*(y.den:Int)+y.num*(x.den:Int)):=hk 15 (by decide)
  have QM:NumAt w1 (.agg #[.bool OO,.slice OP qjt OM]) ((x.den:Int)*(y.den:Int)):=hk 20 (by decide)
  have hC:=MakesE.g (HE.o▸sE _ _ _ _ (K+M+1) w1 h15 QM HD.o HK.o jS.o iW.o)
  exact⟨192,#[.agg #[.bool OR,.slice OS qju OQ],.agg #[.bool OO,.slice OP qjt OM]],by go_simp,hC⟩
 rintro _ ⟨qxd,qxf,qw9,qxb,qxc,qxe,qw8,qxa,rfl⟩
 simp only[Act.put,aJ,aI,aH]
 refine Zc ?_
 intro w8 aM hF
 have hL:ExactAt w8 (.agg (zD qxd qxf qw9 qxb qxc qxe qw8 qxa)) (x+y):=hF 21
 have HL:=zh hL
 have bj:=zh (B3.o.below aM B3.o.lt)
 have dP:=zh (bw.o.trans (aM.mono bw.o.size))
 have q0:=bj.o.cell 0
 have q1:=bj.o.cell 1
 have q2:=bj.o.cell 2
 have q3:=bj.o.cell 3
 have f0:=bj.o.frozen 0
 have f1:=bj.o.frozen 1
 have f2:=bj.o.frozen 2
 have f3:=bj.o.frozen 3
 simp only[aP,aQ,aO] at q0 q1 q2 q3
 clear hF hL aM B3 bw tX tW FW Ku Cb vu Kt Ks
 go_wp2_with fail
 refine YI (v:=.agg (zD qxd qxf qw9 qxb qxc qxe qw8 qxa)) (by simp[results,Tryz.results157,go_sem,q0,q1,q2,q3]) rfl ?_
 exact⟨bC dP.o (by omega) _ _ _ _,_,rfl,HL.o.stored bj.o _ _ _ _⟩
theorem hH (v u:Value) (x y:Rat) (K M:Nat) (w:World) (hv:ExactAt w v x) (hu:ExactAt w u y) (hx:bT x K) (hy:bT y M) (hK:K+M+1≤400000) :
  Calls Tryz.prog 159 #[v,u] w (MakesE (x-y) w):=by
 obtain⟨fJ,fK,fH,fI,fw,fx,fu,fv,rfl,cW,cT⟩:=hv.form
 obtain⟨kl,ko,ki,kj,jI,jJ,jG,jH,rfl,Be,Bd⟩:=hu.form
 have HV:=zh hv
 have HU:=zh hu
 have HX:=zh hx
 have HY:=zh hy
 have HE:Y0 (x + -y=x-y):=(Rat.sub_eq_add_neg x y).symm
 have DZ:=zh cW
 have vk:=zh cT
 have My:=zh Be
 have JJ:=zh Bd
 have HK:=zh hK
 have po:=zh (cf w 195 195 195 (zD fJ fK fH fI fw fx fu fv) (zD kl ko ki kj jI jJ jG jH) (zD false none 0 0 false none 0 0))
 clear hv hu cW cT Be Bd hx hy hK
 go_enter Tryz.func159,Tryz.ntmps159
 go_wp2_with fail
 generalize ((w.alloc (.cells (zD fJ fK fH fI fw fx fu fv) 195)).alloc (.cells (zD kl ko ki kj jI jJ jG jH) 195)).alloc (.cells (zD false none 0 0 false none 0 0) 195)=W3 at *
 obtain⟨B1,B2,B3,bw⟩:=po.o
 have iZ:=B1.cell 0
 have j9:=B1.cell 1
 have mY:=B1.cell 2
 have ow:=B1.cell 3
 have jX:=B2.cell 0
 have jT:=B2.cell 1
 have qz:=B2.cell 2
 have qy:=B2.cell 3
 simp only[aP,aQ,aO] at iZ j9 mY ow jX jT qz qy
 have tX:=YL iZ
 have tW:=YL j9
 have FW:=YL mY
 have Ku:=YL ow
 have Cb:=YL jX
 have vu:=YL jT
 have Kt:=YL qz
 have Ks:=YL qy
 have B3:=zh B3
 have bw:=zh bw
 clear po B1 B2 iZ j9 mY ow jX jT qz qy
 refine ag 8 (fun i=>if i=3 then some (gN (-y.num)) else if i=7 then some (gE (x-y)) else none) (by kernel_rfl) (by kernel_rfl) ?_
 simp only[aU,aT,aW,aX]
 refine ae 3 (by kernel_rfl) (by rfl) (by decide) ?_
 simp only[aU,aT,aW,aX]
 repeat (go_big_quiet_step (fail))
 refine YH ?_
 refine af rfl rfl ?_ ?_
 ·intro w1 ao hk
  have hb:=bw.o.trans (ao.mono bw.o.size)
  have hC:=MakesN.g (XI _ _ w1 (My.o.grow hb))
  exact⟨196,#[.agg #[.bool kl,.slice ko ki kj]],by go_simp,hC⟩
 rintro _ ⟨r8b,r8A,r8l,r8c,rfl⟩
 simp only[Act.put,aJ,aI,aH]
 refine ae 3 (by kernel_rfl) (by rfl) (by decide) ?_
 simp only[aU,aT,aW,aX]
 repeat (go_big_quiet_step (fail))
 refine YH ?_
 refine af rfl rfl ?_ ?_
 ·intro w1 ao hk
  have hb:=bw.o.trans (ao.mono bw.o.size)
  have h8:NumAt w1 (.agg #[.bool r8b,.slice r8A r8l r8c]) (-y.num):=hk 11 (by decide) 8 (by decide)
  have hE:ExactAt w1 (.agg (zD r8b r8A r8l r8c jI jJ jG jH)) (-y):=⟨_,_,_,_,rfl,by rw[Rat.neg_num];exact h8,by rw[Rat.neg_den];exact JJ.o.grow hb⟩
  have hC:=MakesE.g (HE.o▸du _ _ x (-y) K M w1 (HV.o.grow hb) hE HX.o (Jq HY.o) HK.o)
  exact⟨157,#[.agg (zD fJ fK fH fI fw fx fu fv),.agg (zD r8b r8A r8l r8c jI jJ jG jH)],by go_simp,hC⟩
 rintro _ ⟨Iz,I1,Iv,Ix,Iy,I0,Iu,Iw,rfl⟩
 simp only[Act.put,aJ,aI,aH]
 refine Zc ?_
 intro w8 aM hF
 have hL:ExactAt w8 (.agg (zD Iz I1 Iv Ix Iy I0 Iu Iw)) (x-y):=hF 12
 have HL:=zh hL
 have bj:=zh (B3.o.below aM B3.o.lt)
 have dP:=zh (bw.o.trans (aM.mono bw.o.size))
 have q0:=bj.o.cell 0
 have q1:=bj.o.cell 1
 have q2:=bj.o.cell 2
 have q3:=bj.o.cell 3
 have f0:=bj.o.frozen 0
 have f1:=bj.o.frozen 1
 have f2:=bj.o.frozen 2
 have f3:=bj.o.frozen 3
 simp only[aP,aQ,aO] at q0 q1 q2 q3
 clear hF hL aM B3 bw tX tW FW Ku Cb vu Kt Ks
 go_wp2_with fail
 refine YI (v:=.agg (zD Iz I1 Iv Ix Iy I0 Iu Iw)) (by simp[results,Tryz.results159,go_sem,q0,q1,q2,q3]) rfl ?_
 exact⟨bC dP.o (by omega) _ _ _ _,_,rfl,HL.o.stored bj.o _ _ _ _⟩
theorem sF (v u:Value) (x y:Rat) (K M:Nat) (w:World) (hv:ExactAt w v x) (hu:ExactAt w u y) (hx:bT x K) (hy:bT y M) (hK:K+M+1≤400000) :
  Calls Tryz.prog 190 #[v,u] w (MakesE (x*y) w):=by
 obtain⟨fJ,fK,fH,fI,fw,fx,fu,fv,rfl,cW,cT⟩:=hv.form
 obtain⟨kl,ko,ki,kj,jI,jJ,jG,jH,rfl,Be,Bd⟩:=hu.form
 have HV:=zh hv
 have HU:=zh hu
 have HX:=zh hx
 have HY:=zh hy
 have rm:=zh (fE hx.1 hy.1)
 have gx:=zh (fE (ey hx.2) (ey hy.2))
 have HD:Y0 ((x.den:Int)*(y.den:Int)≠0):=Int.mul_ne_zero (tK x) (tK y)
 have HE:Y0 (Rat.divInt (x.num*y.num) ((x.den:Int)*(y.den:Int))=x*y):=by
  unfold Y0
  rw[MS,Int.natCast_mul]
 have DZ:=zh cW
 have vk:=zh cT
 have My:=zh Be
 have JJ:=zh Bd
 have HK:=zh hK
 have po:=zh (cf w 195 195 195 (zD fJ fK fH fI fw fx fu fv) (zD kl ko ki kj jI jJ jG jH) (zD false none 0 0 false none 0 0))
 clear hv hu cW cT Be Bd hx hy hK
 go_enter Tryz.func190,Tryz.ntmps190
 go_wp2_with fail
 generalize ((w.alloc (.cells (zD fJ fK fH fI fw fx fu fv) 195)).alloc (.cells (zD kl ko ki kj jI jJ jG jH) 195)).alloc (.cells (zD false none 0 0 false none 0 0) 195)=W3 at *
 obtain⟨B1,B2,B3,bw⟩:=po.o
 have iZ:=B1.cell 0
 have j9:=B1.cell 1
 have mY:=B1.cell 2
 have ow:=B1.cell 3
 have jX:=B2.cell 0
 have jT:=B2.cell 1
 have qz:=B2.cell 2
 have qy:=B2.cell 3
 simp only[aP,aQ,aO] at iZ j9 mY ow jX jT qz qy
 have tX:=YL iZ
 have tW:=YL j9
 have FW:=YL mY
 have Ku:=YL ow
 have Cb:=YL jX
 have vu:=YL jT
 have Kt:=YL qz
 have Ks:=YL qy
 have B3:=zh B3
 have bw:=zh bw
 clear po B1 B2 iZ j9 mY ow jX jT qz qy
 refine ag 11 (fun i=>if i=4 then some (gN (x.num*y.num)) else if i=9 then some (gN ((x.den:Int)*(y.den:Int))) else if i=10 then some (gE (x*y)) else none) (by kernel_rfl) (by kernel_rfl) ?_
 simp only[aU,aT,aW,aX]
 refine ae 4 (by kernel_rfl) (by rfl) (by decide) ?_
 simp only[aU,aT,aW,aX]
 repeat (go_big_quiet_step (fail))
 refine YH ?_
 refine af rfl rfl ?_ ?_
 ·intro w1 ao hk
  have hb:=bw.o.trans (ao.mono bw.o.size)
  have hC:=MakesN.g (lH _ _ _ _ (K+M) w1 (DZ.o.grow hb) (My.o.grow hb) (by have:=HK.o;omega) ((fm HX.o.1 (Nat.le_add_right K M))) ((fm HY.o.1 (Nat.le_add_left M K))))
  exact⟨193,#[.agg #[.bool fJ,.slice fK fH fI],.agg #[.bool kl,.slice ko ki kj]],by go_simp,hC⟩
 rintro _ ⟨Et,Eu,r9l,Es,rfl⟩
 simp only[Act.put,aJ,aI,aH]
 refine ae 4 (by kernel_rfl) (by rfl) (by decide) ?_
 simp only[aU,aT,aW,aX]
 repeat (go_big_quiet_step (fail))
 refine YH ?_
 refine af rfl rfl ?_ ?_
 ·intro w1 ao hk
  have hb:=bw.o.trans (ao.mono bw.o.size)
  have hC:=MakesN.g (lH _ _ _ _ (K+M) w1 (vk.o.grow hb) (JJ.o.grow hb) (by have:=HK.o;omega) ((fm (ey HX.o.2) (Nat.le_add_right K M))) ((fm (ey HY.o.2) (Nat.le_add_left M K))))
  exact⟨193,#[.agg #[.bool fw,.slice fx fu fv],.agg #[.bool jI,.slice jJ jG jH]],by go_simp,hC⟩
 rintro _ ⟨mJ,mK,Is,mI,rfl⟩
 simp only[Act.put,aJ,aI,aH]
 refine af rfl rfl ?_ ?_
 ·intro w1 ao hk
  have hb:=bw.o.trans (ao.mono bw.o.size)
  have h9:NumAt w1 (.agg #[.bool Et,.slice Eu r9l Es]) (x.num*y.num):=hk 9 (by decide)
  have QN:NumAt w1 (.agg #[.bool mJ,.slice mK Is mI]) ((x.den:Int)*(y.den:Int)):=hk 14 (by decide)
  have hC:=MakesE.g (HE.o▸sE _ _ _ _ (K+M) w1 h9 QN HD.o (by have:=HK.o;omega) rm.o gx.o)
  exact⟨192,#[.agg #[.bool Et,.slice Eu r9l Es],.agg #[.bool mJ,.slice mK Is mI]],by go_simp,hC⟩
 rintro _ ⟨Ip,Ir,Ik,Im,Io,Iq,Ij,Il,rfl⟩
 simp only[Act.put,aJ,aI,aH]
 refine Zc ?_
 intro w8 aM hF
 have hL:ExactAt w8 (.agg (zD Ip Ir Ik Im Io Iq Ij Il)) (x*y):=hF 15
 have HL:=zh hL
 have bj:=zh (B3.o.below aM B3.o.lt)
 have dP:=zh (bw.o.trans (aM.mono bw.o.size))
 have q0:=bj.o.cell 0
 have q1:=bj.o.cell 1
 have q2:=bj.o.cell 2
 have q3:=bj.o.cell 3
 have f0:=bj.o.frozen 0
 have f1:=bj.o.frozen 1
 have f2:=bj.o.frozen 2
 have f3:=bj.o.frozen 3
 simp only[aP,aQ,aO] at q0 q1 q2 q3
 clear hF hL aM B3 bw tX tW FW Ku Cb vu Kt Ks
 go_wp2_with fail
 refine YI (v:=.agg (zD Ip Ir Ik Im Io Iq Ij Il)) (by simp[results,Tryz.results190,go_sem,q0,q1,q2,q3]) rfl ?_
 exact⟨bC dP.o (by omega) _ _ _ _,_,rfl,HL.o.stored bj.o _ _ _ _⟩
theorem DN (v u:Value) (x y:Rat) (K M:Nat) (w:World) (hv:ExactAt w v x) (hu:ExactAt w u y) (hx:bT x K) (hy:bT y M) (hz:y.num≠0) (hK:K+M+1≤400000) :
  Calls Tryz.prog 160 #[v,u] w (MakesE (x / y) w):=by
 obtain⟨fJ,fK,fH,fI,fw,fx,fu,fv,rfl,cW,cT⟩:=hv.form
 obtain⟨kl,ko,ki,kj,jI,jJ,jG,jH,rfl,Be,Bd⟩:=hu.form
 have HV:=zh hv
 have HU:=zh hu
 have HX:=zh hx
 have HY:=zh hy
 have rm:=zh (fE hx.1 (ey hy.2))
 have gx:=zh (fE (ey hx.2) hy.1)
 have HD:Y0 ((x.den:Int)*y.num≠0):=Int.mul_ne_zero (tK x) hz
 have HE:Y0 (Rat.divInt (x.num*(y.den:Int)) ((x.den:Int)*y.num)=x / y):=by
  unfold Y0
  rw[MU]
 clear hz
 have DZ:=zh cW
 have vk:=zh cT
 have My:=zh Be
 have JJ:=zh Bd
 have HK:=zh hK
 have po:=zh (cf w 195 195 195 (zD fJ fK fH fI fw fx fu fv) (zD kl ko ki kj jI jJ jG jH) (zD false none 0 0 false none 0 0))
 clear hv hu cW cT Be Bd hx hy hK
 go_enter Tryz.func160,Tryz.ntmps160
 go_wp2_with fail
 generalize ((w.alloc (.cells (zD fJ fK fH fI fw fx fu fv) 195)).alloc (.cells (zD kl ko ki kj jI jJ jG jH) 195)).alloc (.cells (zD false none 0 0 false none 0 0) 195)=W3 at *
 obtain⟨B1,B2,B3,bw⟩:=po.o
 have iZ:=B1.cell 0
 have j9:=B1.cell 1
 have mY:=B1.cell 2
 have ow:=B1.cell 3
 have jX:=B2.cell 0
 have jT:=B2.cell 1
 have qz:=B2.cell 2
 have qy:=B2.cell 3
 simp only[aP,aQ,aO] at iZ j9 mY ow jX jT qz qy
 have tX:=YL iZ
 have tW:=YL j9
 have FW:=YL mY
 have Ku:=YL ow
 have Cb:=YL jX
 have vu:=YL jT
 have Kt:=YL qz
 have Ks:=YL qy
 have B3:=zh B3
 have bw:=zh bw
 clear po B1 B2 iZ j9 mY ow jX jT qz qy
 refine ag 11 (fun i=>if i=4 then some (gN (x.num*(y.den:Int))) else if i=9 then some (gN ((x.den:Int)*y.num)) else if i=10 then some (gE (x / y)) else none) (by kernel_rfl) (by kernel_rfl) ?_
 simp only[aU,aT,aW,aX]
 refine ae 4 (by kernel_rfl) (by rfl) (by decide) ?_
 simp only[aU,aT,aW,aX]
 repeat (go_big_quiet_step (fail))
 refine YH ?_
 refine af rfl rfl ?_ ?_
 ·intro w1 ao hk
  have hb:=bw.o.trans (ao.mono bw.o.size)
  have hC:=MakesN.g (lH _ _ _ _ (K+M) w1 (DZ.o.grow hb) (JJ.o.grow hb) (by have:=HK.o;omega) ((fm HX.o.1 (Nat.le_add_right K M))) ((fm (ey HY.o.2) (Nat.le_add_left M K))))
  exact⟨193,#[.agg #[.bool fJ,.slice fK fH fI],.agg #[.bool jI,.slice jJ jG jH]],by go_simp,hC⟩
 rintro _ ⟨Et,Eu,r9l,Es,rfl⟩
 simp only[Act.put,aJ,aI,aH]
 refine ae 4 (by kernel_rfl) (by rfl) (by decide) ?_
 simp only[aU,aT,aW,aX]
 repeat (go_big_quiet_step (fail))
 refine YH ?_
 refine af rfl rfl ?_ ?_
 ·intro w1 ao hk
  have hb:=bw.o.trans (ao.mono bw.o.size)
  have hC:=MakesN.g (lH _ _ _ _ (K+M) w1 (vk.o.grow hb) (My.o.grow hb) (by have:=HK.o;omega) ((fm (ey HX.o.2) (Nat.le_add_right K M))) ((fm HY.o.1 (Nat.le_add_left M K))))
  exact⟨193,#[.agg #[.bool fw,.slice fx fu fv],.agg #[.bool kl,.slice ko ki kj]],by go_simp,hC⟩
 rintro _ ⟨mJ,mK,Is,mI,rfl⟩
 simp only[Act.put,aJ,aI,aH]
 refine af rfl rfl ?_ ?_
 ·intro w1 ao hk
  have hb:=bw.o.trans (ao.mono bw.o.size)
  have h9:NumAt w1 (.agg #[.bool Et,.slice Eu r9l Es]) (x.num*(y.den:Int)):=hk 9 (by decide)
  have QN:NumAt w1 (.agg #[.bool mJ,.slice mK Is mI]) ((x.den:Int)*y.num):=hk 14 (by decide)
  have hC:=MakesE.g (HE.o▸sE _ _ _ _ (K+M) w1 h9 QN HD.o (by have:=HK.o;omega) rm.o gx.o)
  exact⟨192,#[.agg #[.bool Et,.slice Eu r9l Es],.agg #[.bool mJ,.slice mK Is mI]],by go_simp,hC⟩
 rintro _ ⟨Ip,Ir,Ik,Im,Io,Iq,Ij,Il,rfl⟩
 simp only[Act.put,aJ,aI,aH]
 refine Zc ?_
 intro w8 aM hF
 have hL:ExactAt w8 (.agg (zD Ip Ir Ik Im Io Iq Ij Il)) (x / y):=hF 15
 have HL:=zh hL
 have bj:=zh (B3.o.below aM B3.o.lt)
 have dP:=zh (bw.o.trans (aM.mono bw.o.size))
 have q0:=bj.o.cell 0
 have q1:=bj.o.cell 1
 have q2:=bj.o.cell 2
 have q3:=bj.o.cell 3
 have f0:=bj.o.frozen 0
 have f1:=bj.o.frozen 1
 have f2:=bj.o.frozen 2
 have f3:=bj.o.frozen 3
 simp only[aP,aQ,aO] at q0 q1 q2 q3
 clear hF hL aM B3 bw tX tW FW Ku Cb vu Kt Ks
 go_wp2_with fail
 refine YI (v:=.agg (zD Ip Ir Ik Im Io Iq Ij Il)) (by simp[results,Tryz.results160,go_sem,q0,q1,q2,q3]) rfl ?_
 exact⟨bC dP.o (by omega) _ _ _ _,_,rfl,HL.o.stored bj.o _ _ _ _⟩
theorem mL (l:List Int) (x:Int):dD (l++[x])=dD l*x:=by simp[dD,List.foldl_append]
theorem De {l:List Int} (h:∀ x∈l,x.natAbs ≤ 4611686018427387904):∀ k,k ≤ l.length→(dD (l.take k)).natAbs < 4294967296 ^ (2 * k + 1)
 | 0,_=>by simp[dD]
 | k+1,hk=>by
  have ih:=De h k (by omega)
  rw[aC l k (by omega),mL]
  have h1:=h l[k] (yV (by omega))
  have h2:l[k].natAbs<4294967296 ^ 2:=by
   have:(4294967296:Nat) ^ 2=18446744073709551616:=by decide
   omega
  have h3:=fE ih h2
  rwa [show 2*k+1+2=2*(k+1)+1 by omega] at h3
theorem Dn {x:Int} (h:x.natAbs≤4611686018427387904):x.natAbs<4294967296 ^ 20:=by
 have e:(4294967296:Nat) ^ 2=18446744073709551616:=by decide
 exact fm (K:=2) (by omega) (by decide)
def NumBox (w:World) (D:Nat) (z:Int):Prop:=∃ b A l c,Blk w D 193 #[.bool b,.slice A l c]∧NumAt w (.agg #[.bool b,.slice A l c]) z
theorem NumBox.grow {w w':World} {D:Nat} {z:Int} (h:NumBox w D z) (hb:Below w.heap.size w w'):NumBox w' D z:=by
 obtain⟨b,A,l,c,h1,h2⟩:=h
 exact⟨b,A,l,c,h1.below hb h1.lt,h2.grow hb⟩
theorem NumBox.put {w:World} {D:Nat} {z z0:Int} (h0:NumBox w D z0) {b:Bool} {A:Option Addr} {l c:Nat} (h:NumAt w (.agg #[.bool b,.slice A l c]) z):NumBox ((w.setCell ⟨D,0,none⟩ (.bool b)).setCell ⟨D,1,none⟩ (.slice A l c)) D z:=by
 obtain⟨b0,A0,l0,c0,h1,-⟩:=h0
 exact⟨b,A,l,c,(h1.set_ 0 _).set_ 1 _,(h.setBox h1 (by decide) 0 _).setBox (h1.set_ 0 _) (by decide) 1 _⟩
theorem gq (vj:Int) (v:Value) (l:List Int) (w:World) (hv:bO w w.heap.size v l) (hl:l.length≤8) (hx:∀ x∈l,x.natAbs≤4611686018427387904) (jr:vj≠0) (ao:vj.natAbs≤4611686018427387904) :
  Calls Tryz.prog 195 #[.int .i64 vj,v] w (MakesE (Zu vj l) w):=by
 obtain⟨A,c,rfl,gC,dr,ah⟩:=hv.open_
 unfold maxLen at dr
 have HX:=zh hx
 have HC:=zh ah
 have Z2:=zh jr
 have bZ:=zh ao
 have HR:=zh (Blk.new w 195 (zD false none 0 0 false none 0 0))
 have HB:=zh ((yB _ w).alloc (yA _) (.cells (zD false none 0 0 false none 0 0) 195))
 clear ah hv hx jr ao
 go_enter Tryz.func195,Tryz.ntmps195
 go_wp2_with fail
 generalize w.alloc (.cells (zD false none 0 0 false none 0 0) 195)=W0 at *
 refine (JA 1 W0 (by decide) (by decide)).mono ?_
 rintro e w1 ⟨ao,v1,rfl,uY⟩
 obtain⟨n1,A1,l1,c1,rfl,-⟩:=uY.form
 have MA:=zh ((HR.o.below ao HR.o.lt).alloc (.cells #[.bool n1,.slice A1 l1 c1] 193))
 have Mc:=HB.o.trans (ao.mono HB.o.size)
 have Y2:=zh (Mc.alloc Mc.size (.cells #[.bool n1,.slice A1 l1 c1] 193))
 have Fy:Y0 (NumBox (w1.alloc (.cells #[.bool n1,.slice A1 l1 c1] 193)) w1.heap.size (dD (l.take 0))):=⟨n1,A1,l1,c1,Blk.new _ _ _,uY.grow ((yB _ _).alloc (yA _) _)⟩
 have QO:Y0 (w.heap.size<w1.heap.size):=yK HR.o.lt ao.size
 clear HR HB ao uY Mc
 go_wp2_with fail
 generalize df:w1.heap.size=D5 at *
 clear df
 go_loopw [11] (fun ix wr=>∃ k:Nat,k≤l.length∧ix = .int .i64 k∧Y0 (NumBox wr D5 (dD (l.take k)))∧Y0 (Blk wr w.heap.size 195 (zD false none 0 0 false none 0 0))∧Y0 (Below w.heap.size w wr)) (fun ix _=>l.length-(intOf ix).toNat)
 case atStart=>exact⟨0,yI _,rfl,Fy,MA,Y2⟩
 clear Fy MA Y2
 obtain⟨k,hk,rfl,HN,HR,HB⟩:=hrel
 have k0:(0:Int)≤(k:Int):=yE _
 obtain⟨nb,nA,nl,nc,hNb,hNn⟩:=HN.o
 obtain⟨q0,q1⟩:=hNb.c2
 have HNb:=zh hNb
 have Yq:=zh hNn
 have HPk:=zh (De HX.o k hk)
 clear hNb hNn
 by_cases aB:k<l.length
 ·have k1:(k:Int)<(l.length:Int):=by omega
  obtain⟨b2,o2,rfl,aw,dW⟩:=HC.o k aB
  have hx:=(HB.o.cell (p:=⟨b2,o2+k,none⟩) aw).trans (dW k aB)
  have HXk:=zh (HX.o l[k] (yV aB))
  have HP:Y0 (dD (l.take (k+1))=dD (l.take k)*l[k]):=by unfold Y0;rw[aC l k aB,mL]
  clear dW aw
  generalize l[k]=x at *
  go_wp2_with fail
  have u0:=YL q0
  have u1:=YL q1
  clear hx q0 q1
  refine ag 4 (fun i=>if i=2 then some (gN x) else if i=3 then some (gN (dD (l.take k)*x)) else none) (by kernel_rfl) (by kernel_rfl) ?_
  simp only[aU,aT,aW,aX]
  refine ae 2 (by kernel_rfl) (by rfl) (by decide) ?_
  simp only[aU,aT,aW,aX]
  repeat (go_big_quiet_step (fail))
  refine YH ?_
  refine af rfl rfl (fun w1 ao _=>⟨191,#[.int .i64 x],by go_simp,MakesN.g (JA x w1 (by have:=HXk.o;omega) (by have:=HXk.o;omega))⟩) ?_
  rintro _ ⟨rb,rA,rl,rc,rfl⟩
  simp only[Act.put,aJ,aI,aH]
  refine af rfl rfl ?_ ?_
  ·intro w1 ao YX
   have h17:NumAt w1 (.agg #[.bool rb,.slice rA rl rc]) x:=YX 17 (by decide)
   exact⟨193,#[.agg #[.bool nb,.slice nA nl nc],.agg #[.bool rb,.slice rA rl rc]],by go_simp,MakesN.g (lH _ _ _ _ 20 w1 (Yq.o.grow ao) h17 (by decide) (fm HPk.o (by omega)) (Dn HXk.o))⟩
  rintro _ ⟨sb,sA,sl,sc,rfl⟩
  simp only[Act.put,aJ,aI,aH]
  refine Zc ?_
  intro w5 bg hF
  have h18:NumAt w5 (.agg #[.bool sb,.slice sA sl sc]) (dD (l.take k)*x):=hF 18
  have cN:=zh (HB.o.trans (bg.mono HB.o.size))
  have m8:=zh (HR.o.below bg HR.o.lt)
  have By:=HNb.o.below bg HNb.o.lt
  have q0:=By.cell 0
  have q1:=By.cell 1
  have f0:=By.frozen 0
  have f1:=By.frozen 1
  simp only[aP,aQ,aO] at q0 q1
  rw[← HP.o] at h18
  have H18:=zh h18
  have QS:=zh (HN.o.grow bg)
  clear hF u0 u1 h18 bg By HP HN HR HB HNb Yq
  go_wp2_with fail
  have HN6:=zh (QS.o.put H18.o)
  have vm:=zh ((m8.o.far (p:=⟨D5,0,none⟩) (Nat.ne_of_lt QO.o) (.bool sb)).far (p:=⟨D5,1,none⟩) (Nat.ne_of_lt QO.o) (.slice sA sl sc))
  have lK:=zh ((cN.o.setCell (p:=⟨D5,0,none⟩) (YJ QO.o) (.bool sb)).setCell (p:=⟨D5,1,none⟩) (YJ QO.o) (.slice sA sl sc))
  clear q0 q1 f0 f1 H18 QS m8 cN
  go_roundw
  case rel=>exact⟨k+1,by omega,by go_num,HN6,vm,lK⟩
  simp[intOf];omega
 obtain rfl:k=l.length:=by omega
 rw[yT] at Yq HPk
 go_wp2_with fail
 have u0:=YL q0
 have u1:=YL q1
 clear q0 q1
 refine ag 4 (fun i=>if i=2 then some (gN vj) else if i=3 then some (gE (Zu vj l)) else none) (by kernel_rfl) (by kernel_rfl) ?_
 simp only[aU,aT,aW,aX]
 refine ae 2 (by kernel_rfl) (by rfl) (by decide) ?_
 simp only[aU,aT,aW,aX]
 repeat (go_big_quiet_step (fail))
 refine YH ?_
 refine af rfl rfl (fun w1 ao _=>⟨191,#[.int .i64 vj],by go_simp,MakesN.g (JA vj w1 (by have:=bZ.o;omega) (by have:=bZ.o;omega))⟩) ?_
 rintro _ ⟨rb,rA,rl,rc,rfl⟩
 simp only[Act.put,aJ,aI,aH]
 refine af rfl rfl ?_ ?_
 ·intro w1 ao YX
  have h22:NumAt w1 (.agg #[.bool rb,.slice rA rl rc]) vj:=YX 22 (by decide)
  exact⟨192,#[.agg #[.bool nb,.slice nA nl nc],.agg #[.bool rb,.slice rA rl rc]],by go_simp,MakesE.g (sE _ _ _ _ 20 w1 (Yq.o.grow ao) h22 Z2.o (by decide) (fm HPk.o (by omega)) (Dn bZ.o))⟩
 rintro _ ⟨gM,gQ,gH,gK,gL,gP,gG,gJ,rfl⟩
 simp only[Act.put,aJ,aI,aH]
 refine Zc ?_
 intro w5 bg hF
 have h23:ExactAt w5 (.agg (zD gM gQ gH gK gL gP gG gJ)) (Zu vj l):=hF 23
 have HL:=zh h23
 have dP:=zh (HB.o.trans (bg.mono HB.o.size))
 have bj:=zh (HR.o.below bg HR.o.lt)
 have q0:=bj.o.cell 0
 have q1:=bj.o.cell 1
 have q2:=bj.o.cell 2
 have q3:=bj.o.cell 3
 have f0:=bj.o.frozen 0
 have f1:=bj.o.frozen 1
 have f2:=bj.o.frozen 2
 have f3:=bj.o.frozen 3
 simp only[aP,aQ,aO] at q0 q1 q2 q3
 clear hF u0 u1 h23 bg HN HR HB HNb Yq
 go_wp2_with fail
 refine YI (v:=.agg (zD gM gQ gH gK gL gP gG gJ)) (by simp[results,Tryz.results195,go_sem,q0,q1,q2,q3]) rfl ?_
 exact⟨bC dP.o (yA _) _ _ _ _,_,rfl,HL.o.stored bj.o _ _ _ _⟩
def LoadT.cells (x:LoadT):List Value:=[.int .i64 x.pos,.int .i64 x.wt]
def LoadsAt (w:World) (B:Nat) (v:Value) (l:List LoadT):Prop:=Flat w B v l.length (l.flatMap LoadT.cells)
theorem LoadsAt.below {w w':World} {B B':Nat} {v:Value} {l:List LoadT} (h:LoadsAt w B v l) (hb:Below B' w w') (hB:B≤B'):LoadsAt w' B v l:=Flat.below h hb hB
theorem LoadsAt.mono {w:World} {B B':Nat} {v:Value} {l:List LoadT} (h:LoadsAt w B v l) (hB:B≤B'):LoadsAt w B' v l:=Flat.mono h hB
theorem VJ (l:List LoadT) (j i:Nat) (hj:j<l.length) (hi:i<2):(l.flatMap LoadT.cells)[j*2+i]? = l[j].cells[i]?:=by
 induction l generalizing j with
 | nil=>simp at hj
 | cons t l ih=>
  have h5:t.cells.length=2:=rfl
  rw[List.flatMap_cons]
  cases j with
  | zero=>rw[List.getElem?_append_left (by rw[h5];omega)];simp
  | succ j=>
   rw[List.getElem?_append_right (by rw[h5];omega),h5]
   have:=ih j (by simpa using hj)
   rw[show (j+1)*2+i-2=j*2+i by omega,this]
   rfl
theorem LoadsAt.open_ {w:World} {B:Nat} {v:Value} {l:List LoadT} (h:LoadsAt w B v l) :
  ∃ A c,v = .slice A l.length c∧l.length≤c∧c≤maxLen∧∀ k (_:k<l.length),∃ b off,A=some ⟨b,off,none⟩∧b<B∧∀ j (hj:j<l.length),w.cell? ⟨b,off+j*2,none⟩=some (.int .i64 l[j].pos)∧w.cell? ⟨b,off+j*2+1,none⟩=some (.int .i64 l[j].wt):=by
 obtain⟨A,c,h1,h2,h3,h4⟩:=h
 refine⟨A,c,h1,h2,h3,fun k hk=>?_⟩
 obtain⟨b,off,e,aw,hc⟩:=h4 (by omega)
 refine⟨b,off,e,aw,fun j hj=>?_⟩
 have f:=fun (i:Nat) (hi:i<2) u (hu:l[j].cells[i]? = some u)=>hc (j*2+i) u ((VJ l j i hj hi).trans hu)
 have g:=fun (i:Nat) (hi:i<2) u (hu:l[j].cells[i]? = some u)=>(congrArg (fun o=>w.cell? ⟨b,o,none⟩) (Nat.add_assoc off (j*2) i)).trans (f i hi u hu)
 exact⟨g 0 (by omega) _ rfl,g 1 (by omega) _ rfl⟩
def BeamAt (w:World) (B:Nat) (v:Value) (b:BeamT):Prop :=
 ∃ As cs Al cl,v = .agg (zC b As cs Al cl)∧bO w B (.slice As b.sup.length cs) b.sup∧LoadsAt w B (.slice Al b.loads.length cl) b.loads
theorem BeamAt.below {w w':World} {B B':Nat} {v:Value} {b:BeamT} (h:BeamAt w B v b) (hb:Below B' w w') (hB:B≤B'):BeamAt w' B v b:=by
 obtain⟨As,cs,Al,cl,h1,h2,h3⟩:=h
 exact⟨As,cs,Al,cl,h1,h2.below hb hB,h3.below hb hB⟩
theorem BeamAt.mono {w:World} {B B':Nat} {v:Value} {b:BeamT} (h:BeamAt w B v b) (hB:B≤B'):BeamAt w B' v b:=by
 obtain⟨As,cs,Al,cl,h1,h2,h3⟩:=h
 exact⟨As,cs,Al,cl,h1,h2.mono hB,h3.mono hB⟩
theorem BeamAt.grow {w w':World} {v:Value} {b:BeamT} (h:BeamAt w w.heap.size v b) (hb:Below w.heap.size w w'):BeamAt w' w'.heap.size v b:=(h.below hb (yA _)).mono hb.size
theorem iM (w:World) (T:TypeId) (l:List Int) (hl:l.length≤100):bO (w.alloc (.cells (l.map (Value.int .i64)).toArray T)) (w.alloc (.cells (l.map (Value.int .i64)).toArray T)).heap.size (.slice (some ⟨w.heap.size,0,none⟩) l.length l.length) l:=by
 refine⟨some ⟨w.heap.size,0,none⟩,l.length,rfl,yA _,by unfold maxLen;omega,fun _=>⟨w.heap.size,0,rfl,by simp,fun j u hu=>?_⟩⟩
 rw[yR,(Blk.new w T _).cell]
 simpa using hu
def gI (l:List Int):GPost:=⟨fun v=>∃ g,v = .slice (some ⟨g,0,none⟩) l.length l.length,fun v w=>bO w w.heap.size v l,⟨_,0,rfl⟩,fun _ _ _ hb h=>(RowAt.below h hb (yA _)).mono hb.size,false⟩
theorem en {P:Program} {o:Oper} {a:Act} {w:World} {T:TypeId} {l:List Int} (hl:l.length≤100) (h:(execOp a.eval o).run P w = .ok (.value (.slice (some ⟨w.heap.size,0,none⟩) l.length l.length)) (w.alloc (.cells (l.map (Value.int .i64)).toArray T))):o7 P o a (gI l) w :=
 ⟨_,_,h,(yB _ _).alloc (yA _) _,⟨_,rfl⟩,iM w T l hl,fun h=>by cases h⟩
def ExBox (w:World) (D:Nat) (q:Rat):Prop:=∃ b1 A1 l1 c1 b2 A2 l2 c2,Blk w D 195 #[.bool b1,.slice A1 l1 c1,.bool b2,.slice A2 l2 c2]∧ExactAt w (.agg #[.bool b1,.slice A1 l1 c1,.bool b2,.slice A2 l2 c2]) q
theorem ExBox.grow {w w':World} {D:Nat} {q:Rat} (h:ExBox w D q) (hb:Below w.heap.size w w'):ExBox w' D q:=by
 obtain⟨b1,A1,l1,c1,b2,A2,l2,c2,h1,h2⟩:=h
 exact⟨b1,A1,l1,c1,b2,A2,l2,c2,h1.below hb h1.lt,h2.grow hb⟩
theorem ExBox.new {w:World} {q:Rat} {b1:Bool} {A1:Option Addr} {l1 c1:Nat} {b2:Bool} {A2:Option Addr} {l2 c2:Nat} (h:ExactAt w (.agg (zD b1 A1 l1 c1 b2 A2 l2 c2)) q):ExBox (w.alloc (.cells (zD b1 A1 l1 c1 b2 A2 l2 c2) 195)) w.heap.size q :=
 ⟨b1,A1,l1,c1,b2,A2,l2,c2,Blk.new _ _ _,h.grow ((yB _ _).alloc (yA _) _)⟩
theorem ExBox.put {w:World} {D:Nat} {q:Rat} {cs:Array Value} (h0:Blk w D 195 cs) (h4:cs.size=4) {b1:Bool} {A1:Option Addr} {l1 c1:Nat} {b2:Bool} {A2:Option Addr} {l2 c2:Nat} (h:ExactAt w (.agg (zD b1 A1 l1 c1 b2 A2 l2 c2)) q) :
  ExBox ((((w.setCell ⟨D,0,none⟩ (.bool b1)).setCell ⟨D,1,none⟩ (.slice A1 l1 c1)).setCell ⟨D,2,none⟩ (.bool b2)).setCell ⟨D,3,none⟩ (.slice A2 l2 c2)) D q:=by
 refine⟨b1,A1,l1,c1,b2,A2,l2,c2,?_,h.stored h0 _ _ _ _⟩
 have h5:=(((h0.set_ 0 (.bool b1)).set_ 1 (.slice A1 l1 c1)).set_ 2 (.bool b2)).set_ 3 (.slice A2 l2 c2)
 match cs,h4,h5 with
 | ⟨[x0,x1,x2,x3]⟩,_,h5=>exact h5
theorem Blk.far4 {w:World} {g D:Nat} {t:TypeId} {cs:Array Value} (h:Blk w g t cs) (hg:g≠D) (x0 x1 x2 x3:Value):Blk ((((w.setCell ⟨D,0,none⟩ x0).setCell ⟨D,1,none⟩ x1).setCell ⟨D,2,none⟩ x2).setCell ⟨D,3,none⟩ x3) g t cs :=
 (((h.far (p:=⟨D,0,none⟩) hg x0).far (p:=⟨D,1,none⟩) hg x1).far (p:=⟨D,2,none⟩) hg x2).far (p:=⟨D,3,none⟩) hg x3
structure SumSt (w wr:World) (bx:Array Value) (Ds:Nat) (q:Rat):Prop where
 bm:Blk wr w.heap.size 122 bx
 res:Blk wr (w.heap.size+1) 195 (zD false none 0 0 false none 0 0)
 sum:ExBox wr Ds q
 bel:Below w.heap.size w wr
 far:w.heap.size+1<Ds
theorem SumSt.grow {w wr w':World} {bx:Array Value} {Ds:Nat} {q:Rat} (h:SumSt w wr bx Ds q) (hb:Below wr.heap.size wr w'):SumSt w w' bx Ds q :=
 ⟨h.bm.below hb h.bm.lt,h.res.below hb h.res.lt,h.sum.grow hb,h.bel.trans (hb.mono h.bel.size),h.far⟩
theorem SumSt.alloc {w wr:World} {bx:Array Value} {Ds:Nat} {q:Rat} (h:SumSt w wr bx Ds q) (o:Obj):SumSt w (wr.alloc o) bx Ds q:=h.grow ((yB _ _).alloc (yA _) _)
theorem SumSt.put {w wr:World} {bx:Array Value} {Ds:Nat} {q q':Rat} (h:SumSt w wr bx Ds q) {b1:Bool} {A1:Option Addr} {l1 c1:Nat} {b2:Bool} {A2:Option Addr} {l2 c2:Nat} (hE:ExactAt wr (.agg (zD b1 A1 l1 c1 b2 A2 l2 c2)) q') :
  SumSt w ((((wr.setCell ⟨Ds,0,none⟩ (.bool b1)).setCell ⟨Ds,1,none⟩ (.slice A1 l1 c1)).setCell ⟨Ds,2,none⟩ (.bool b2)).setCell ⟨Ds,3,none⟩ (.slice A2 l2 c2)) bx Ds q':=by
 have hf:=h.far
 obtain⟨_,_,_,_,_,_,_,_,h1,-⟩:=h.sum
 exact⟨h.bm.far4 (by omega) _ _ _ _,h.res.far4 (by omega) _ _ _ _,ExBox.put h1 rfl hE,bC h.bel (by omega) _ _ _ _,h.far⟩
theorem SumSt.start {w w1:World} {bx:Array Value} {q:Rat} (hb:Below (w.heap.size + 2) ((w.alloc (.cells bx 122)).alloc (.cells (zD false none 0 0 false none 0 0) 195)) w1)
  {b1:Bool} {A1:Option Addr} {l1 c1:Nat} {b2:Bool} {A2:Option Addr} {l2 c2:Nat} (hE:ExactAt w1 (.agg (zD b1 A1 l1 c1 b2 A2 l2 c2)) q) :
  SumSt w (w1.alloc (.cells (zD b1 A1 l1 c1 b2 A2 l2 c2) 195)) bx w1.heap.size q:=by
 have h1:Blk ((w.alloc (.cells bx 122)).alloc (.cells (zD false none 0 0 false none 0 0) 195)) (w.heap.size+1) 195 (zD false none 0 0 false none 0 0):=by
  have:=Blk.new (w.alloc (.cells bx 122)) 195 (zD false none 0 0 false none 0 0)
  simpa using this
 have h2:=(Blk.new w 122 bx).alloc (.cells (zD false none 0 0 false none 0 0) 195)
 have h3:Below w.heap.size w ((w.alloc (.cells bx 122)).alloc (.cells (zD false none 0 0 false none 0 0) 195)):=((yB _ _).alloc (yA _) _).alloc (by simp) _
 have h4:Below w.heap.size w w1:=h3.trans (hb.mono (by omega))
 have dK:w.heap.size+2≤w1.heap.size:=by have:=hb.size;simpa using this
 exact⟨(h2.below hb (by omega)).alloc _,(h1.below hb (by omega)).alloc _,ExBox.new hE,h4.alloc h4.size _,by omega⟩
theorem K0 {x y:Int} (h1:x.natAbs≤4611686018427387904) (h2:y.natAbs≤4611686018427387904):∀ z∈[x,y],z.natAbs≤4611686018427387904:=fun z hz=>by
 simp at hz
 rcases hz with rfl | rfl
 ·exact h1
 exact h2
theorem Rw {x y z:Int} (h1:x.natAbs≤4611686018427387904) (h2:y.natAbs≤4611686018427387904) (h3:z.natAbs≤4611686018427387904):∀ u∈[x,y,z],u.natAbs≤4611686018427387904:=fun u hu=>by
 simp at hu
 rcases hu with rfl | rfl | rfl
 ·exact h1
 ·exact h2
 exact h3
theorem XJ (v:Value) (b:BeamT) (w:World) (hv:BeamAt w w.heap.size v b) (hb:BeamOk b):Calls Tryz.prog 187 #[v] w (MakesE (bA b) w):=by
 obtain⟨As,cs,Al,cl,rfl,hS,hL⟩:=hv
 obtain⟨_,_,e,_,mR,uD⟩:=hS.open_
 injection e with e1 _ e2
 subst e1 e2
 obtain⟨_,_,e,_,dW,oN⟩:=hL.open_
 injection e with e1 _ e2
 subst e1 e2
 have h1:=hb.sup1
 have h2:=hb.loads1
 have h3:=hb.even
 have h4:=hb.sup 0 h1.1
 have h5:=hb.len
 unfold maxLen at mR dW
 have WL:=uD 0 h1.1
 obtain⟨b1,o1,rfl,ao,WL⟩:=WL
 have WL:=WL 0 h1.1
 have e0:b.sup[0]'h1.1=ak b 0:=by unfold ak;rw[List.getD_eq_getElem?_getD,List.getElem?_eq_getElem h1.1];rfl
 rw[e0,Nat.add_zero] at WL
 have vn:=zh oN
 have Hb:=zh hb
 have s0:(0:Int)<(b.sup.length:Int):=by omega
 generalize JX:ak b 0=a at *
 have HA:=zh JX
 obtain⟨h41,h42⟩:=h4
 obtain⟨Zp,h32⟩:=h3
 obtain⟨h51,h52⟩:=h5
 clear oN uD hb hS hL e0 JX h1
 have WL:=WL
 go_enter Tryz.func187,Tryz.ntmps187
 go_wp2_with fail
 have hI:=iM ((w.alloc (.cells (zC b (some ⟨b1,o1,none⟩) cs Al cl) 122)).alloc (.cells (zD false none 0 0 false none 0 0) 195)) 3 [b.even,a,a] (yU rfl)
 have dK:((w.alloc (.cells (zC b (some ⟨b1,o1,none⟩) cs Al cl) 122)).alloc (.cells (zD false none 0 0 false none 0 0) 195)).heap.size=w.heap.size+1+1:=by simp
 rw[dK] at hI
 refine (gq 2000 _ [b.even,a,a] _ hI (yU rfl) (fun x hx=>?_) (by decide) (by decide)).mono ?_
 ·simp at hx
  omega
 rintro e w1 ⟨mh,v1,rfl,li⟩
 obtain⟨m1,B1,k1,d1,m2,B2,k2,d2,rfl,-,-⟩:=li.form
 have rZ:=((yB _ ((w.alloc (.cells (zC b (some ⟨b1,o1,none⟩) cs Al cl) 122)).alloc (.cells (zD false none 0 0 false none 0 0) 195))).alloc (yA _) (.cells #[.int .i64 b.even,.int .i64 a,.int .i64 a] 3)).trans (mh.mono (by simp))
 rw[dK] at rZ
 have aS:=zh (SumSt.start rZ li)
 have q3:=aS.o.bm.cell 3
 simp only[aP,aQ,aO] at q3
 have HH:Y0 (js b 0=Zu 2000 [b.even,a,a]):=by unfold Y0 js;rw[HA.o];rfl
 clear hI dK mh li rZ
 go_wp2_with fail
 generalize w1.heap.size=Ds at *
 rw[← HH.o] at aS
 clear HH q3
 go_loopw [20] (fun ix wr=>∃ k:Nat,k≤b.loads.length∧ix = .int .i64 k∧Y0 (SumSt w wr (zC b (some ⟨b1,o1,none⟩) cs Al cl) Ds (js b k))) (fun ix _=>b.loads.length-(intOf ix).toNat)
 case atStart=>exact⟨0,yI _,rfl,aS⟩
 clear aS
 obtain⟨k,hk,rfl,aS⟩:=hrel
 have k0:(0:Int)≤(k:Int):=yE _
 by_cases aB:k<b.loads.length
 ·have k1:(k:Int)<(b.loads.length:Int):=by omega
  obtain⟨b2,o2,rfl,aw,dW⟩:=vn.o k aB
  obtain⟨cW,cT⟩:=dW k aB
  have cW:=(aS.o.bel.cell (p:=⟨b2,o2+k*2,none⟩) aw).trans cW
  have cT:=(aS.o.bel.cell (p:=⟨b2,o2+k*2+1,none⟩) aw).trans cT
  obtain⟨p1,p2,p3,p4⟩:=Hb.o.loads _ (yV aB)
  have lg:=zh (Zl (b:=b) (f:=se (ak b 0)) (s:=Zu 2000 [b.even,ak b 0,ak b 0]) aB)
  have Q6:=zh (tH Hb.o (YJ aB))
  have fF:=zh (aS.o.alloc (.cells #[.int .i64 b.loads[k].pos,.int .i64 b.loads[k].wt] 162))
  clear dW
  generalize b.loads[k]=x at *
  obtain⟨pos,wt⟩:=x
  simp only at cW cT p1 p2 p3 p4 fF
  by_cases qN:pos<a
  ·have hd:decide (pos<a)=true:=yD qN
   have HT:Y0 (js b (k+1)=js b k+Zu 1 [wt,a-pos]):=by
    unfold Y0 js
    rw[lg.o]
    unfold se
    rw[HA.o]
    simp only[if_pos qN]
   have CB:Y0 (bT (Zu 1 [wt,a-pos]) 5):=uH (by decide) (by decide) (by omega) (by omega)
   clear lg
   go_wp2_with fail
   obtain⟨gM,gQ,gH,gK,gL,gP,gG,gJ,hB,hE⟩:=fF.o.sum
   obtain⟨y0,y1,y2,y3⟩:=hB.c4
   have z:=Blk.new wr 162 #[.int .i64 pos,.int .i64 wt]
   obtain⟨z0,z1⟩:=z.c2
   have HE:=zh hE
   have ky:=zh fF.o.bel
   have mz:(a-pos).natAbs≤4611686018427387904:=by omega
   have jU:wt.natAbs≤4611686018427387904:=by omega
   clear hB hE z cW cT
   generalize wr.alloc (.cells #[.int .i64 pos,.int .i64 wt] 162)=W1 at *
   have u0:=YL y0
   have u1:=YL y1
   have u2:=YL y2
   have u3:=YL y3
   have u4:=YL z0
   have u5:=YL z1
   clear y0 y1 y2 y3 z0 z1
   refine ag 10 (fun i=>if i=7 then some (gI [wt,a-pos]) else if i=8 then some (gE (Zu 1 [wt,a-pos])) else if i=9 then some (gE (js b k+Zu 1 [wt,a-pos])) else none) (by kernel_rfl) (by kernel_rfl) ?_
   simp only[aU,aT,aW,aX]
   refine ae 7 (by kernel_rfl) (by rfl) (by decide) ?_
   simp only[aU,aT,aW,aX]
   repeat (go_big_quiet_step (fail))
   refine YH ?_
   refine br rfl rfl (fun w1 ao _=>en (T:=3) (l:=[wt,a-pos]) (yU rfl) (by go_simp)) ?_
   rintro _ ⟨Xd,rfl⟩
   simp only[Act.put,aJ,aI,aH]
   refine af rfl rfl ?_ ?_
   ·intro w1 ao hk
    have hb:=(ky.o).trans (ao.mono (ky.o).size)
    have h35:bO w1 w1.heap.size (.slice (some ⟨Xd,0,none⟩) 2 2) [wt,a-pos]:=hk 35 (by decide)
    have hC:=MakesE.g (gq 1 _ [wt,a-pos] w1 h35 (yU rfl) (K0 jU mz) (by decide) (by decide))
    exact⟨195,#[.int .i64 1,.slice (some ⟨Xd,0,none⟩) 2 2],by go_simp,hC⟩
   rintro _ ⟨nR,nT,nN,nP,nQ,nS,nM,nO,rfl⟩
   simp only[Act.put,aJ,aI,aH]
   refine af rfl rfl ?_ ?_
   ·intro w1 ao hk
    have hb:=(ky.o).trans (ao.mono (ky.o).size)
    have h36:ExactAt w1 (.agg (zD nR nT nN nP nQ nS nM nO)) (Zu 1 [wt,a-pos]):=hk 36 (by decide)
    have hC:=MakesE.g (du _ _ _ _ 245 5 w1 (HE.o.grow ao) h36 Q6.o CB.o (by decide))
    exact⟨157,#[.agg (zD gM gQ gH gK gL gP gG gJ),.agg (zD nR nT nN nP nQ nS nM nO)],by go_simp,hC⟩
   rintro _ ⟨wO,wQ,wK,wM,wN,wP,wJ,wL,rfl⟩
   simp only[Act.put,aJ,aI,aH]
   refine Zc ?_
   intro w8 aM hF
   have WT:ExactAt w8 (.agg (zD wO wQ wK wM wN wP wJ wL)) (js b k+Zu 1 [wt,a-pos]):=hF 37
   have HL:=zh WT
   have iV:=zh (fF.o.grow aM)
   obtain⟨_,_,_,_,_,_,_,_,h1,-⟩:=iV.o.sum
   have q0:=h1.cell 0
   have q1:=h1.cell 1
   have q2:=h1.cell 2
   have q3:=h1.cell 3
   have f0:=h1.frozen 0
   have f1:=h1.frozen 1
   have f2:=h1.frozen 2
   have f3:=h1.frozen 3
   simp only[aP,aQ,aO] at q0 q1 q2 q3
   rw[← HT.o] at HL
   clear hF u0 u1 u2 u3 u4 u5 aM WT h1 HE ky fF aS
   go_wp2_with fail
   have ny:=zh (iV.o.put HL.o)
   clear q0 q1 q2 q3 f0 f1 f2 f3 HL iV
   go_roundw
   case rel=>exact⟨k+1,by omega,by go_num,ny⟩
   simp[intOf];omega
  have hd:decide (pos<a)=false:=yC qN
  have HT:Y0 (js b (k+1)=js b k):=by
   unfold Y0 js
   rw[lg.o]
   unfold se
   rw[HA.o]
   simp only[if_neg qN]
  rw[← HT.o] at fF
  clear lg aS
  go_wp2_with fail
  go_roundw
  case rel=>exact⟨k+1,by omega,by go_num,fF⟩
  simp[intOf];omega
 obtain rfl:k=b.loads.length:=by omega
 obtain⟨gM,gQ,gH,gK,gL,gP,gG,gJ,hB,hE⟩:=aS.o.sum
 obtain⟨y0,y1,y2,y3⟩:=hB.c4
 have HE:=zh hE
 have ky:=zh aS.o.bel
 have Q6:=zh (tH Hb.o (yA _))
 have fF:=aS
 clear hB hE aS
 go_wp2_with fail
 have u0:=YL y0
 have u1:=YL y1
 have u2:=YL y2
 have u3:=YL y3
 clear y0 y1 y2 y3
 refine ag 3 (fun i=>if i=0 then some (gE (((0:Int):Rat))) else if i=2 then some (gE (bA b)) else none) (by kernel_rfl) (by kernel_rfl) ?_
 simp only[aU,aT,aW,aX]
 refine af rfl rfl ?_ ?_
 ·intro w1 ao hk
  have hb:=(ky.o).trans (ao.mono (ky.o).size)
  have hC:=MakesE.g (eV 0 w1 (by decide) (by decide))
  exact⟨156,#[.int .i64 0],by go_simp,hC⟩
 rintro _ ⟨qwP,qwR,qwL,qwN,qwO,qwQ,qwK,qwM,rfl⟩
 simp only[Act.put,aJ,aI,aH]
 refine ae 1 (by kernel_rfl) (by rfl) (by decide) ?_
 simp only[aU,aT,aW,aX]
 repeat (go_big_quiet_step (fail))
 refine YH ?_
 refine af rfl rfl ?_ ?_
 ·intro w1 ao hk
  have hb:=(ky.o).trans (ao.mono (ky.o).size)
  have h39:ExactAt w1 (.agg (zD qwP qwR qwL qwN qwO qwQ qwK qwM)) (((0:Int):Rat)):=hk 39 (by decide)
  have hC:=MakesE.g (hH _ _ _ _ 1 245 w1 h39 (HE.o.grow ao) (bp (by decide) (yA _)) Q6.o (by decide))
  exact⟨159,#[.agg (zD qwP qwR qwL qwN qwO qwQ qwK qwM),.agg (zD gM gQ gH gK gL gP gG gJ)],by go_simp,hC⟩
 rintro _ ⟨qwH,qwJ,qwD,qwF,qwG,qwI,qwC,qwE,rfl⟩
 simp only[Act.put,aJ,aI,aH]
 refine Zc ?_
 intro w8 aM hF
 have h41:ExactAt w8 (.agg (zD qwH qwJ qwD qwF qwG qwI qwC qwE)) (bA b):=hF 41
 have HL:=zh h41
 have bj:=zh (fF.o.res.below aM fF.o.res.lt)
 have dP:=zh (ky.o.trans (aM.mono ky.o.size))
 have q0:=bj.o.cell 0
 have q1:=bj.o.cell 1
 have q2:=bj.o.cell 2
 have q3:=bj.o.cell 3
 have f0:=bj.o.frozen 0
 have f1:=bj.o.frozen 1
 have f2:=bj.o.frozen 2
 have f3:=bj.o.frozen 3
 simp only[aP,aQ,aO] at q0 q1 q2 q3
 clear hF u0 u1 u2 u3 h41 aM HE ky fF
 go_wp2_with fail
 refine YI (v:=.agg (zD qwH qwJ qwD qwF qwG qwI qwC qwE)) (by simp[results,Tryz.results187,go_sem,q0,q1,q2,q3]) rfl ?_
 exact⟨bC dP.o (by omega) _ _ _ _,_,rfl,HL.o.stored bj.o _ _ _ _⟩
end Go.Proofs.YtfhmbechennkbaaGreatDoor
