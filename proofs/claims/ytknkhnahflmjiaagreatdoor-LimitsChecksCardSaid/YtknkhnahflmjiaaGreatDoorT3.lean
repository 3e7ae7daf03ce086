/- Lemmas. -/
import Derived.Test.YtknkhnahflmjiaaGreatDoorT2
namespace Go.Proofs.YtknkhnahflmjiaaGreatDoor
set_option maxRecDepth 100000
set_option maxHeartbeats 40000000
open Go.RowKit Go.Shelf
def ExactAt (w:World) (v:Value) (q:Rat):Prop:=∃n1 s1 n2 s2,v=.agg #[.bool n1,s1,.bool n2,s2]∧NumAt w (.agg #[.bool n1,s1]) q.num∧NumAt w (.agg #[.bool n2,s2]) (q.den:Int)
theorem ExactAt.grow {w w':World} {v:Value} {q:Rat} (h:ExactAt w v q) (hb:Below w.heap.size w w'):ExactAt w' v q:=by
 obtain⟨n1,s1,n2,s2,h1,h2,h3⟩:=h;exact⟨n1,s1,n2,s2,h1,h2.grow hb,h3.grow hb⟩
theorem ExactAt.setBox {w:World} {v:Value} {q:Rat} {D:Nat} {t:TypeId} {cs:Array Value} (h:ExactAt w v q) (hD:Blk w D t cs) (ht:t≠232) (i:Nat) (x:Value):ExactAt (w.setCell ⟨D,i,none⟩ x) v q:=by
 obtain⟨n1,s1,n2,s2,h1,h2,h3⟩:=h;exact⟨n1,s1,n2,s2,h1,h2.setBox hD ht i x,h3.setBox hD ht i x⟩
theorem ExactAt.kept {w w':World} {v:Value} {q:Rat} {row:Option Nat} {t:TypeId} (h:ExactAt w v q) (wR:w.grownBy w' row) (hg:∀g,row=some g→∃cs r,w.heap[g]?=some (.cells cs t r)) (ht:t≠232):ExactAt w' v q:=by
 obtain⟨n1,s1,n2,s2,h1,h2,h3⟩:=h;exact⟨n1,s1,n2,s2,h1,h2.kept wR hg ht,h3.kept wR hg ht⟩
theorem ExactAt.form {w:World} {v:Value} {q:Rat} (h:ExactAt w v q):∃n1 A1 l1 c1 n2 A2 l2 c2,v=.agg (zD n1 A1 l1 c1 n2 A2 l2 c2)∧NumAt w (.agg #[.bool n1,.slice A1 l1 c1]) q.num∧NumAt w (.agg #[.bool n2,.slice A2 l2 c2]) (q.den:Int):=by
 obtain⟨n1,s1,n2,s2,rfl,h2,h3⟩:=h;obtain⟨n1,A1,l1,c1,e1,-⟩:=h2.form;obtain⟨n2,A2,l2,c2,e2,-⟩:=h3.form;simp only[Value.agg.injEq,Array.mk.injEq,List.cons.injEq,and_true] at e1 e2;obtain⟨e11,e12⟩:=e1;obtain⟨e21,e22⟩:=e2;subst e12 e22;exact⟨_,A1,l1,c1,_,A2,l2,c2,rfl,h2,h3⟩
def MakesE (q:Rat) (w:World) (e:Ending) (w':World):Prop:=Below w.heap.size w w'∧∃v,e=.returned v∧ExactAt w' v q
def gE (q:Rat):GPost:=⟨fun v=>∃n1 A1 l1 c1 n2 A2 l2 c2,v=.agg #[.bool n1,.slice A1 l1 c1,.bool n2,.slice A2 l2 c2],fun v w=>ExactAt w v q,⟨.agg #[.bool false,.slice none 0 0,.bool false,.slice none 0 0],false,none,0,0,false,none,0,0,rfl⟩,fun _ _ _ hb h=>ExactAt.grow h hb,false⟩
theorem MakesE.g {P:Program} {f:FuncId} {args:Array Value} {w:World} {q:Rat} (h:Calls P f args w (MakesE q w)):Calls P f args w fun e w'=>∃v,e=.returned v∧Below w.heap.size w w'∧(gE q).σ v∧(gE q).φ v w' :=
 h.mono fun _ _ ⟨hb,v,he,hN⟩=>⟨v,he,hb,(by obtain⟨n1,A1,l1,c1,n2,A2,l2,c2,h1,_,_⟩:=hN.form;exact⟨n1,A1,l1,c1,n2,A2,l2,c2,h1⟩),hN⟩
theorem ExactAt.stored {w:World} {v:Value} {q:Rat} {D:Nat} {cs:Array Value} (h:ExactAt w v q) (hD:Blk w D 223 cs) (x0 x1 x2 x3:Value):ExactAt ((((w.setCell ⟨D,0,none⟩ x0).setCell ⟨D,1,none⟩ x1).setCell ⟨D,2,none⟩ x2).setCell ⟨D,3,none⟩ x3) v q :=
 (((h.setBox hD (by decide) 0 x0).setBox (hD.set_ 0 x0) (by decide) 1 x1).setBox ((hD.set_ 0 x0).set_ 1 x1) (by decide) 2 x2).setBox (((hD.set_ 0 x0).set_ 1 x1).set_ 2 x2) (by decide) 3 x3
theorem bI {B D:Nat} {w0 w:World} (h:Below B w0 w) (hD:B≤D) (x0 x1 x2 x3:Value):Below B w0 ((((w.setCell ⟨D,0,none⟩ x0).setCell ⟨D,1,none⟩ x1).setCell ⟨D,2,none⟩ x2).setCell ⟨D,3,none⟩ x3) :=
 (((h.setCell (p:=⟨D,0,none⟩) hD x0).setCell (p:=⟨D,1,none⟩) hD x1).setCell (p:=⟨D,2,none⟩) hD x2).setCell (p:=⟨D,3,none⟩) hD x3
theorem fU (n:Int) (w:World) (h0 : -4611686018427387904≤n) (h1:n≤4611686018427387904):Calls Tryz.prog 192 #[.int .i64 n] w (MakesE ((n:Int):Rat) w):=by
 have HD:=zh (Blk.new w 223 (zD false none 0 0 false none 0 0));have HB:=zh ((yB _ w).alloc (yA _) (.cells (zD false none 0 0 false none 0 0) 223));go_enter Tryz.func192,Tryz.ntmps192;go_wp2_with fail;generalize w.alloc (.cells (zD false none 0 0 false none 0 0) 223)=W at*;refine (DR n W h0 h1).mono ?_;rintro e w5 ⟨bf,v5,rfl,hN5⟩;obtain⟨n5,A5,l5,c5,rfl,-⟩:=hN5.form;have M7:=zh hN5;have qq:=zh (HD.o.below bf HD.o.lt)
 have dJ:=zh (HB.o.trans (bf.mono HB.o.size));clear bf hN5 HD HB;go_wp2_with fail;refine (DR 1 w5 (by decide) (by decide)).mono ?_;rintro e w6 ⟨fk,v6,rfl,hN6⟩;obtain⟨n6,A6,l6,c6,rfl,-⟩:=hN6.form;have LZ:=zh hN6;have vwC:=zh (M7.o.grow fk);have rD:=zh (qq.o.below fk qq.o.lt);have ni:=zh (dJ.o.trans (fk.mono dJ.o.size));have q0:=rD.o.cell 0;have q1:=rD.o.cell 1;have q2:=rD.o.cell 2;have q3:=rD.o.cell 3
 have f0:=rD.o.frozen 0;have f1:=rD.o.frozen 1;have f2:=rD.o.frozen 2;have f3:=rD.o.frozen 3;simp only[aB,aD,aA] at q0 q1 q2 q3;clear fk hN6 qq dJ M7;go_wp2_with fail;refine YF (v:=.agg (zD n5 A5 l5 c5 n6 A6 l6 c6)) (by simp[results,Tryz.results192,go_sem,q0,q1,q2,q3]) rfl ?_;have hE:ExactAt w6 (.agg (zD n5 A5 l5 c5 n6 A6 l6 c6)) ((n:Int):Rat):=⟨_,_,_,_,rfl,by rw[Rat.num_intCast];exact vwC.o,by rw[Rat.den_intCast];exact LZ.o⟩
 exact⟨bI ni.o (yA _) _ _ _ _,_,rfl,hE.stored rD.o _ _ _ _⟩
theorem NumAt.parts {w:World} {nn:Bool} {s:Value} {z:Int} (h:NumAt w (.agg #[.bool nn,s]) z):WAt w s z.natAbs∧(z≠0→(nn=true↔z<0)):=by
 obtain⟨neg,s',m,e,h2,h3⟩:=h;simp only[Value.agg.injEq,Array.mk.injEq,List.cons.injEq,and_true,Value.bool.injEq] at e;obtain⟨e1,e2⟩:=e;subst e1 e2;have hm:z.natAbs=m:=by rw[h3];cases nn <;> simp
 rw[hm];refine⟨h2,fun hz=>?_⟩;cases nn <;> simp at h3⊢ <;> omega
theorem qx4 {n d:Int} (hd:d≠0) (hn:n≠0) {nn:Bool} (h:nn=true↔((n<0∧0<d)∨(0<n∧d<0))) :
  (Rat.divInt n d).num=if nn=true then -((n.natAbs/Nat.gcd n.natAbs d.natAbs:Nat):Int) else ((n.natAbs/Nat.gcd n.natAbs d.natAbs:Nat):Int):=by
 have h1:=(qN (n:=n) hd).1;have h2:=Jj hd hn;rw[←h1];by_cases e:nn=true
 ·have:=h2.2 (h.1 e);rw[if_pos e];omega
 have h3:¬(Rat.divInt n d).num<0:=fun h3=>e (h.2 (h2.1 h3));rw[if_neg e];omega
theorem LB {w:World} {D1 D2 D3:Nat} {t1 t2 t3:TypeId} {a1 b1 a2 b2:Value} {cs3:Array Value} (h1:Blk w D1 t1 #[a1,b1]) (h2:Blk w D2 t2 #[a2,b2]) (h3:Blk w D3 t3 cs3) (tK:D1≠D2) (Df:D1≠D3) (XI:D2≠D3) (x1 y1 x2 y2:Value) :
  Blk ((((w.setCell ⟨D1,0,none⟩ x1).setCell ⟨D1,1,none⟩ y1).setCell ⟨D2,0,none⟩ x2).setCell ⟨D2,1,none⟩ y2) D1 t1 #[x1,y1]∧Blk ((((w.setCell ⟨D1,0,none⟩ x1).setCell ⟨D1,1,none⟩ y1).setCell ⟨D2,0,none⟩ x2).setCell ⟨D2,1,none⟩ y2) D2 t2 #[x2,y2] ∧
   Blk ((((w.setCell ⟨D1,0,none⟩ x1).setCell ⟨D1,1,none⟩ y1).setCell ⟨D2,0,none⟩ x2).setCell ⟨D2,1,none⟩ y2) D3 t3 cs3 :=
 ⟨(((h1.set_ 0 x1).set_ 1 y1).far (p:=⟨D2,0,none⟩) tK x2).far (p:=⟨D2,1,none⟩) tK y2,(((h2.far (p:=⟨D1,0,none⟩) (Ne.symm tK) x1).far (p:=⟨D1,1,none⟩) (Ne.symm tK) y1).set_ 0 x2).set_ 1 y2,
  (((h3.far (p:=⟨D1,0,none⟩) (Ne.symm Df) x1).far (p:=⟨D1,1,none⟩) (Ne.symm Df) y1).far (p:=⟨D2,0,none⟩) (Ne.symm XI) x2).far (p:=⟨D2,1,none⟩) (Ne.symm XI) y2⟩
theorem NumAt.set2 {w:World} {v:Value} {z:Int} {D1 D2:Nat} {t1 t2:TypeId} {cs1 cs2:Array Value} (h:NumAt w v z) (h1:Blk w D1 t1 cs1) (h2:Blk w D2 t2 cs2) (tK:D1≠D2) (ht1:t1≠232) (ht2:t2≠232) (x1 y1 x2 y2:Value) :
  NumAt ((((w.setCell ⟨D1,0,none⟩ x1).setCell ⟨D1,1,none⟩ y1).setCell ⟨D2,0,none⟩ x2).setCell ⟨D2,1,none⟩ y2) v z :=
 (((h.setBox h1 ht1 0 x1).setBox (h1.set_ 0 x1) ht1 1 y1).setBox ((h2.far (p:=⟨D1,0,none⟩) (Ne.symm tK) x1).far (p:=⟨D1,1,none⟩) (Ne.symm tK) y1) ht2 0 x2).setBox (((h2.far (p:=⟨D1,0,none⟩) (Ne.symm tK) x1).far (p:=⟨D1,1,none⟩) (Ne.symm tK) y1).set_ 0 x2) ht2 1 y2
theorem tm (d:Int):Rat.divInt 0 d=((0:Int):Rat):=by rw[Rat.zero_divInt];rfl
theorem ru (v u:Value) (n d:Int) (K:Nat) (w:World) (hv:NumAt w v n) (hu:NumAt w u d) (X6:d≠0) (hK:K≤400000) (hx:n.natAbs<4294967296^K) (hy:d.natAbs<4294967296^K) :
  Calls Tryz.prog 239 #[v,u] w (MakesE (Rat.divInt n d) w):=by
 obtain⟨n1,A1,l1,c1,rfl,-⟩:=hv.form;obtain⟨n2,A2,l2,c2,rfl,-⟩:=hu.form;have HV:=zh hv;have HU:=zh hu;have mJ:=zh (cu w 221 221 223 #[.bool n1,.slice A1 l1 c1] #[.bool n2,.slice A2 l2 c2] (zD false none 0 0 false none 0 0));have I2:Y0 (K≤500000):=by unfold Y0;omega
 have HX:=zh hx;have HY:=zh hy;have tz:=zh X6;clear hx hy hK X6 hv hu;go_enter Tryz.func239,Tryz.ntmps239;go_wp2_with fail;generalize ((w.alloc (.cells #[.bool n1,.slice A1 l1 c1] 221)).alloc (.cells #[.bool n2,.slice A2 l2 c2] 221)).alloc (.cells (zD false none 0 0 false none 0 0) 223)=W3 at*;obtain⟨B1,B2,B3,bE⟩:=mJ.o;obtain⟨gT,jz⟩:=B1.c2;have B1:=zh B1;have B2:=zh B2;have B3:=zh B3;have bE:=zh bE
 clear mJ;go_wp2_with fail;refine (Sw _ n W3 (HV.o.grow bE.o)).mono ?_;rintro e w4 ⟨rfl,bP⟩;have Yp:=zh (B1.o.below bP B1.o.lt);have B24:=zh (B2.o.below bP B2.o.lt);have Yo:=zh (B3.o.below bP B3.o.lt);have JV:=zh (bE.o.trans (bP.mono bE.o.size));clear B1 B2 B3 bE bP gT jz;by_cases hn:n=0
 ·have hs:iI n=0:=by unfold iI;rw[if_pos hn]
  rw[hs];have HE:Y0 (Rat.divInt n d=((0:Int):Rat)):=by unfold Y0;rw[hn,tm]
  clear hn hs;go_wp2_with fail;refine (fU 0 w4 (by decide) (by decide)).mono ?_;rintro e w5 ⟨bf,v5,rfl,H8⟩;obtain⟨n5,A5,l5,c5,n6,A6,l6,c6,rfl,-,-⟩:=H8.form;have E6:=zh H8;have rD:=zh (Yo.o.below bf Yo.o.lt);have ni:=zh (JV.o.trans (bf.mono JV.o.size));have q0:=rD.o.cell 0;have q1:=rD.o.cell 1;have q2:=rD.o.cell 2;have q3:=rD.o.cell 3;have f0:=rD.o.frozen 0;have f1:=rD.o.frozen 1;have f2:=rD.o.frozen 2
  have f3:=rD.o.frozen 3;simp only[aB,aD,aA] at q0 q1 q2 q3;clear H8 bf Yp B24 Yo JV;go_wp2_with fail;refine YF (v:=.agg (zD n5 A5 l5 c5 n6 A6 l6 c6)) (by simp[results,Tryz.results239,go_sem,q0,q1,q2,q3]) rfl ?_;exact⟨bI ni.o (by omega) _ _ _ _,_,rfl,by rw[HE.o];exact E6.o.stored rD.o _ _ _ _⟩
 have hs:(iI n==0)=false:=by
  unfold iI;rw[if_neg hn];split <;> rfl
 have HN:=zh hn;obtain⟨jb,iJ⟩:=B24.o.c2;clear hn;generalize iI n=sn at*;cases n2
 case' true=>
  have Kc:Y0 (d<0):=(HU.o.parts.2 tz.o).1 rfl;obtain⟨gT,jz⟩:=Yp.o.c2;go_wp2_with fail;have sR:=YL gT;have tB:=YL jz;have wQ:=YL jb;have tR:=YL iJ;clear gT jz jb iJ;refine af 4 (fun i=>if i=1 then some (gN (-n)) else if i=3 then some (gN (-d)) else none) (by kernel_rfl) (by kernel_rfl) ?_;simp only[aO,aR,aP,aQ];refine zw 1 ?_;simp only[aO,aR,aP,aQ]
  repeat (go_big_quiet_step (fail))
  refine YE ?_;refine ae rfl rfl (fun w1 ak _=>⟨243,#[.agg #[.bool n1,.slice A1 l1 c1]],by go_simp,MakesN.g (Sz _ n w1 (HV.o.grow (JV.o.trans (ak.mono JV.o.size))))⟩) ?_;rintro v1 ⟨n5,A5,l5,c5,rfl⟩;simp only[Act.put,aw,av,au];refine zw 1 ?_;simp only[aO,aR,aP,aQ]
  repeat (go_big_quiet_step (fail))
  refine YE ?_;refine ae rfl rfl (fun w1 ak _=>⟨243,#[.agg #[.bool true,.slice A2 l2 c2]],by go_simp,MakesN.g (Sz _ d w1 (HU.o.grow (JV.o.trans (ak.mono JV.o.size))))⟩) ?_;rintro v2 ⟨n6,A6,l6,c6,rfl⟩;simp only[Act.put,aw,av,au];refine Zc ?_;intro w5 bf hF;have Df:NumAt w5 (.agg #[.bool n5,.slice A5 l5 c5]) (-n):=hF 13;have h15:NumAt w5 (.agg #[.bool n6,.slice A6 l6 c6]) (-d):=hF 15;have TP:=Yp.o.below bf Yp.o.lt
  have TN:=B24.o.below bf B24.o.lt;have B35:=Yo.o.below bf Yo.o.lt;have Hb5:=zh (JV.o.trans (bf.mono JV.o.size));have p10:=TP.cell 0;have p11:=TP.cell 1;have p20:=TN.cell 0;have p21:=TN.cell 1;have f10:=TP.frozen 0;have f11:=TP.frozen 1;have f20:=TN.frozen 0;have f21:=TN.frozen 1;simp only[aB,aD,aA] at p10 p11 p20 p21;have TP:=zh TP;have TN:=zh TN;have B35:=zh B35;have H13:=zh Df;have H15:=zh h15;clear hF sR tB wQ tR Df h15 bf
  go_wp2_with fail;have UZ:=LB TP.o TN.o B35.o (by omega) (by omega) (by omega) (.bool n5) (.slice A5 l5 c5) (.bool n6) (.slice A6 l6 c6);have hN5:=H13.o.set2 TP.o TN.o (by omega) (by decide) (by decide) (.bool n5) (.slice A5 l5 c5) (.bool n6) (.slice A6 l6 c6);have hN6:=H15.o.set2 TP.o TN.o (by omega) (by decide) (by decide) (.bool n5) (.slice A5 l5 c5) (.bool n6) (.slice A6 l6 c6);have XG:=(((Hb5.o.setCell (p:=⟨w.heap.size,0,none⟩) (yA _) (.bool n5)).setCell (p:=⟨w.heap.size,1,none⟩) (yA _) (.slice A5 l5 c5)).setCell (p:=⟨w.heap.size+1,0,none⟩) (YH _) (.bool n6)).setCell (p:=⟨w.heap.size+1,1,none⟩) (YH _) (.slice A6 l6 c6)
  have hS:n5=true↔(n<0∧0<d)∨(0<n∧d<0):=by
   have h1:=H13.o.parts.2 (by have:=HN.o;omega);have h2:=Kc.o;rw[h1];omega
  have hP:=hN5.parts.1;have hQ:=hN6.parts.1;rw[Int.natAbs_neg] at hP hQ;generalize (((w5.setCell ⟨w.heap.size,0,none⟩ (.bool n5)).setCell ⟨w.heap.size,1,none⟩ (.slice A5 l5 c5)).setCell ⟨w.heap.size+1,0,none⟩ (.bool n6)).setCell ⟨w.heap.size+1,1,none⟩ (.slice A6 l6 c6)=W6 at*;have jC:=UZ.1.cell 0;have JU:=UZ.1.cell 1;have K21:=UZ.2.1.cell 1;simp only[aB,aD,aA] at jC JU K21;have B36:=zh UZ.2.2;have ni:=zh XG
  have HP:=zh hP;have HQ:=zh hQ;have HS:=zh hS;clear UZ hN5 hN6 XG hS hP hQ p10 p11 p20 p21 f10 f11 f20 f21 TP TN B35 H13 H15 Hb5 Yp B24 Yo JV HV HU Kc
 case' false=>
  have Kc:Y0 (0<d):=by
   have h1:=HU.o.parts.2 tz.o;have h2:=tz.o;have h3:¬d<0:=fun h=>by cases h1.2 h
   unfold Y0;omega
  have jC:=Yp.o.cell 0;have JU:=Yp.o.cell 1;have K21:=B24.o.cell 1;simp only[aB,aD,aA] at jC JU K21;have hS:n1=true↔(n<0∧0<d)∨(0<n∧d<0):=by
   have h1:=HV.o.parts.2 HN.o;have h2:=Kc.o;rw[h1];omega
  have HP:=zh (HV.o.parts.1.grow JV.o);have HQ:=zh (HU.o.parts.1.grow JV.o);have HS:=zh hS;have B36:=Yo;have ni:=JV;clear hS Yp B24 Yo JV HV HU Kc iJ;go_wp2_with fail;clear jb;obtain⟨W6,rfl⟩:∃W,W=w4:=⟨_,rfl⟩;obtain⟨n5,rfl⟩:∃n5,n5=n1:=⟨_,rfl⟩;obtain⟨A5,rfl⟩:∃A5,A5=A1:=⟨_,rfl⟩;obtain⟨l5,rfl⟩:∃l5,l5=l1:=⟨_,rfl⟩;obtain⟨c5,rfl⟩:∃c5,c5=c1:=⟨_,rfl⟩;obtain⟨A6,rfl⟩:∃A6,A6=A2:=⟨_,rfl⟩;obtain⟨l6,rfl⟩:∃l6,l6=l2:=⟨_,rfl⟩
  obtain⟨c6,rfl⟩:∃c6,c6=c2:=⟨_,rfl⟩
 all_goals
  refine (S3 _ _ n.natAbs d.natAbs K W6 HP.o HQ.o I2.o HX.o HY.o (Int.natAbs_pos.2 HN.o) (Int.natAbs_pos.2 tz.o)).mono ?_;rintro e w7 ⟨gu,v7,rfl,hW7⟩;have pc:0<Nat.gcd n.natAbs d.natAbs:=Nat.gcd_pos_of_pos_left _ (Int.natAbs_pos.2 HN.o);have hgK:Nat.gcd n.natAbs d.natAbs<4294967296^K:=Nat.lt_of_le_of_lt (Nat.gcd_le_left _ (Int.natAbs_pos.2 HN.o)) HX.o;have hF:=qx4 tz.o HN.o HS.o;have hF2:=(qN (n:=n) tz.o).2
  generalize Nat.gcd n.natAbs d.natAbs=G at*;have AX:=zh pc;have HGK:=zh hgK;have HF:=zh hF;have xy:=zh hF2;have HW7:=zh hW7;have HP7:=zh (HP.o.grow gu);have HQ7:=zh (HQ.o.grow gu);have Tj:=zh (B36.o.below gu B36.o.lt);have rF:=zh (ni.o.trans (gu.mono ni.o.size));obtain⟨⟨A7,c7,L7,rfl,-⟩,-⟩:=hW7;have k10:=(gu.cell (p:=⟨w.heap.size,0,none⟩) (World.block_lt_of_cell? _ _ jC)).trans jC;have k11:=(gu.cell (p:=⟨w.heap.size,1,none⟩) (World.block_lt_of_cell? _ _ JU)).trans JU
  have k21:=(gu.cell (p:=⟨w.heap.size+1,1,none⟩) (World.block_lt_of_cell? _ _ K21)).trans K21;clear jC JU K21 pc hgK hF hF2 gu HP HQ B36 ni HN tz HS;go_wp2_with fail;have sR:=YL k10;have tB:=YL k11;have tR:=YL k21;clear k10 k11 k21;refine af 13 (fun i=>if i=5 then some (gW (n.natAbs/G)) else if i=10 then some (gW (d.natAbs/G)) else none) (by kernel_rfl) (by kernel_rfl) ?_;simp only[aO,aR,aP,aQ];refine zw 5 ?_
  simp only[aO,aR,aP,aQ]
  repeat (go_big_quiet_step (fail))
  refine YE ?_;refine ae rfl rfl (fun w1 ak _=>⟨268,#[.slice A5 l5 c5,.slice A7 L7.length c7],by go_simp,MakesW.g (XL _ _ n.natAbs G K w1 (HP7.o.grow ak) (HW7.o.grow ak) I2.o HX.o HGK.o AX.o)⟩) ?_;rintro v1 ⟨A8,l8,c8,rfl⟩;simp only[Act.put,aw,av,au];refine zw 4 ?_;simp only[aO,aR,aP,aQ]
  repeat (go_big_quiet_step (fail))
  refine YE ?_;refine ae rfl rfl (fun w1 ak _=>⟨268,#[.slice A6 l6 c6,.slice A7 L7.length c7],by go_simp,MakesW.g (XL _ _ d.natAbs G K w1 (HQ7.o.grow ak) (HW7.o.grow ak) I2.o HY.o HGK.o AX.o)⟩) ?_;rintro v2 ⟨A9,l9,c9,rfl⟩;simp only[Act.put,aw,av,au];refine zw 2 ?_;simp only[aO,aR,aP,aQ]
  repeat (go_big_quiet_step (fail))
  refine YE ?_;refine Zc ?_;intro w8 aT hF;have kk:WAt w8 (.slice A8 l8 c8) (n.natAbs/G):=hF 26;have TD:WAt w8 (.slice A9 l9 c9) (d.natAbs/G):=hF 31;have H26:=zh kk;have H31:=zh TD;have bp:=zh (Tj.o.below aT Tj.o.lt);have eG:=zh (rF.o.trans (aT.mono rF.o.size));have q0:=bp.o.cell 0;have q1:=bp.o.cell 1;have q2:=bp.o.cell 2;have q3:=bp.o.cell 3;have f0:=bp.o.frozen 0;have f1:=bp.o.frozen 1;have f2:=bp.o.frozen 2
  have f3:=bp.o.frozen 3;simp only[aB,aD,aA] at q0 q1 q2 q3;clear hF sR tB tR kk TD aT Tj rF;go_wp2_with fail;refine YF (v:=.agg (zD n5 A8 l8 c8 false A9 l9 c9)) (by simp[results,Tryz.results239,go_sem,q0,q1,q2,q3]) rfl ?_;have hE:ExactAt w8 (.agg (zD n5 A8 l8 c8 false A9 l9 c9)) (Rat.divInt n d) :=
   ⟨n5,_,false,_,rfl,⟨n5,_,_,rfl,H26.o,HF.o⟩,⟨false,_,_,rfl,H31.o,by rw[xy.o];rfl⟩⟩
  exact⟨bI eG.o (by omega) _ _ _ _,_,rfl,hE.stored bp.o _ _ _ _⟩
def aC (q:Rat):Bool:=decide (q.num.natAbs≤1152921504606846976)&&decide (q.den≤1152921504606846976)
def bQ (q:Rat):Value:=if aC q=true then .tuple #[.agg #[.int .i64 q.num,.int .i64 (q.den:Int)],.int .i64 0] else .tuple #[.agg #[.int .i64 0,.int .i64 0],.int .i64 5]
def XK (x:Rat) (i:Int):Nat:=if 1≤i then x.num.natAbs else 0
def frY (x:Rat) (i:Int):Nat:=if 2≤i then x.den else 0
def frC (x:Rat) (i:Int):Prop:=(1≤i→x.num.natAbs≤1152921504606846976)∧(2≤i→x.den≤1152921504606846976)
structure FrSt (w wr:World) (b1 b2:Bool) (s1 s2:Value) (x0 x1:Nat):Prop where
 a:Blk wr w.heap.size 223 #[.bool b1,s1,.bool b2,s2]
 r:Blk wr (w.heap.size+1) 23 #[.int .i64 0,.int .i64 0]
 n:Blk wr (w.heap.size+1+1) 269 #[.int .u64 (x0:Int),.int .u64 (x1:Int)]
 b:Below w.heap.size w wr
theorem FrSt.alloc {w wr:World} {b1 b2:Bool} {s1 s2:Value} {x0 x1:Nat} (h:FrSt w wr b1 b2 s1 s2 x0 x1) (o:Obj):FrSt w (wr.alloc o) b1 b2 s1 s2 x0 x1 :=
 ⟨h.a.alloc o,h.r.alloc o,h.n.alloc o,h.b.alloc h.b.size o⟩
theorem FrSt.set0 {w wr:World} {b1 b2:Bool} {s1 s2:Value} {x0 x1:Nat} (h:FrSt w wr b1 b2 s1 s2 x0 x1) (y:Nat):FrSt w (wr.setCell ⟨w.heap.size+1+1,0,none⟩ (.int .u64 (y:Int))) b1 b2 s1 s2 y x1 :=
 ⟨h.a.far (p:=⟨w.heap.size+1+1,0,none⟩) (by show w.heap.size≠w.heap.size+1+1;omega) _,h.r.far (p:=⟨w.heap.size+1+1,0,none⟩) (by show w.heap.size+1≠w.heap.size+1+1;omega) _,h.n.set_ 0 _,h.b.setCell (p:=⟨w.heap.size+1+1,0,none⟩) (by show w.heap.size≤w.heap.size+1+1;omega) _⟩
theorem FrSt.set1 {w wr:World} {b1 b2:Bool} {s1 s2:Value} {x0 x1:Nat} (h:FrSt w wr b1 b2 s1 s2 x0 x1) (y:Nat):FrSt w (wr.setCell ⟨w.heap.size+1+1,1,none⟩ (.int .u64 (y:Int))) b1 b2 s1 s2 x0 y :=
 ⟨h.a.far (p:=⟨w.heap.size+1+1,1,none⟩) (by show w.heap.size≠w.heap.size+1+1;omega) _,h.r.far (p:=⟨w.heap.size+1+1,1,none⟩) (by show w.heap.size+1≠w.heap.size+1+1;omega) _,h.n.set_ 1 _,h.b.setCell (p:=⟨w.heap.size+1+1,1,none⟩) (by show w.heap.size≤w.heap.size+1+1;omega) _⟩
theorem FrSt.drew {w wr:World} {b1 b2:Bool} {s1 s2:Value} {x0 x1:Nat} (h:FrSt w wr b1 b2 s1 s2 x0 x1):FrSt w wr.drew b1 b2 s1 s2 x0 x1:=⟨h.a,h.r,h.n,h.b.drew⟩
theorem WAt.long {w:World} {A:Option Addr} {l c z:Nat} (h:WAt w (.slice A l c) z) (hl:2<l):18446744073709551616≤z:=by
 obtain⟨⟨A',c',L,e,_,_,Hy,rfl⟩,-⟩:=h;injection e with _ e2 _;subst e2;have h1:=IA Hy (fun e=>by rw[e] at hl;simp at hl);have h2:4294967296^2≤4294967296^(L.length-1):=Nat.pow_le_pow_right (by decide) (by omega);omega
theorem WAt.words {w:World} {A:Option Addr} {l c z:Nat} (h:WAt w (.slice A l c) z):∃L,L.length=l∧Wok L∧wv L=z∧∀k,k<l→∃b off,A=some ⟨b,off,none⟩∧w.cell? ⟨b,off+k,none⟩=some (.int .u32 ((aZ L k:Nat):Int)):=by
 obtain⟨⟨A',c',L,e,hl,Hz,_,rfl⟩,-⟩:=h;injection e with e1 e2 e3;subst e1 e2 e3;obtain⟨_,_,e,_,_,aL⟩:=hl.open_;injection e with e1 _ e2;subst e1 e2;refine⟨L,rfl,Hz,rfl,fun k hk=>?_⟩;obtain⟨b,off,rfl,-,hx⟩:=aL k hk;exact⟨b,off,rfl,by rw[cJ hk];exact hx k hk⟩
theorem uj {x:Rat} (h:1152921504606846976<x.num.natAbs∨1152921504606846976<x.den):bQ x=.tuple #[.agg #[.int .i64 0,.int .i64 0],.int .i64 5]:=by
 unfold bQ;rw[if_neg];unfold aC;simp only[Bool.and_eq_true,decide_eq_true_eq];omega
theorem RO {x:Rat} (h1:x.num.natAbs≤1152921504606846976) (h2:x.den≤1152921504606846976):bQ x=.tuple #[.agg #[.int .i64 x.num,.int .i64 (x.den:Int)],.int .i64 0]:=by
 unfold bQ;rw[if_pos];unfold aC;simp only[Bool.and_eq_true,decide_eq_true_eq];exact⟨h1,h2⟩
theorem Jf {f:Nat→Nat} (hf:∀i,f i<4294967296) {k:Nat} (hk:k≤1):bits .or .u64 ((aJ f k:Nat):Int) (IntKind.u64.wrap (((f k:Nat):Int)*2^(32*k)))=((aJ f (k+1):Nat):Int):=by
 have h0:=hf 0;have h1:=hf 1;have ew:∀n:Int,IntKind.u64.wrap n=n%18446744073709551616:=fun n=>by simp[IntKind.wrap,IntKind.bits,IntKind.signed]
 obtain rfl|rfl:k=0∨k=1:=by omega
 ·have e:IntKind.u64.wrap (((f 0:Nat):Int)*2^(32*0))=((f 0:Nat):Int):=by rw[ew,Nat.mul_zero,Int.pow_zero,Int.mul_one];omega
  have e0:aJ f 0=0:=rfl;rw[e,e0,bits_or_u64_nat 0 (f 0) (by decide) (by omega)];show (((0 ||| f 0:Nat)):Int)=((0+4294967296^0*f 0:Nat):Int);rw[Nat.zero_or,Nat.pow_zero,Nat.one_mul,yS]
 have e:IntKind.u64.wrap (((f 1:Nat):Int)*2^(32*1))=((4294967296*f 1:Nat):Int):=by rw[ew];omega
 have e2:aJ f 1=f 0:=by show 0+4294967296^0*f 0=_;rw[Nat.pow_zero,Nat.one_mul,yS]
 rw[e,e2,bits_or_u64_nat _ _ (by omega) (by omega)];show _=((aJ f 1+4294967296^1*f 1:Nat):Int);have h:=Nat.two_pow_add_eq_or_of_lt (i:=32) (b:=f 0) (by omega) (f 1);have e3:(2:Nat)^32=4294967296:=by decide
 rw[e3] at h;rw[e2,Nat.or_comm,←h,Nat.pow_one,Nat.add_comm]
theorem qzh (v:Value) (x:Rat) (w:World) (hv:ExactAt w v x):Calls Tryz.prog 191 #[v] w fun e w'=>e=.returned (bQ x)∧Below w.heap.size w w':=by
 obtain⟨b1,A1,l1,c1,b2,A2,l2,c2,rfl,cG,dc⟩:=hv.form;have tL:=zh cG;have kl:=zh dc;clear hv cG dc;go_enter Tryz.func191,Tryz.ntmps191;go_wp2_with fail;have aW:Y0 (FrSt w (((w.alloc (.cells (zD b1 A1 l1 c1 b2 A2 l2 c2) 223)).alloc (.cells #[.int .i64 0,.int .i64 0] 23)).alloc (.cells #[.int .u64 0,.int .u64 0] 269)) b1 b2 (.slice A1 l1 c1) (.slice A2 l2 c2) (XK x 0) (frY x 0)):=by
  obtain⟨h1,h2,h3,h4⟩:=cu w 223 23 269 (zD b1 A1 l1 c1 b2 A2 l2 c2) #[.int .i64 0,.int .i64 0] #[.int .u64 0,.int .u64 0];exact⟨h1,h2,h3,h4⟩
 have i0:∀w',(Instr.index 270 (.agg (zD b1 A1 l1 c1 b2 A2 l2 c2)) (.int .i64 0)).run Tryz.prog w'=.ok (.agg #[.bool b1,.slice A1 l1 c1]) w':=fun _=>by kernel_rfl
 have i1:∀w',(Instr.index 270 (.agg (zD b1 A1 l1 c1 b2 A2 l2 c2)) (.int .i64 1)).run Tryz.prog w'=.ok (.agg #[.bool b2,.slice A2 l2 c2]) w':=fun _=>by kernel_rfl
 go_loopw [15] (fun ix wr=>∃i:Int,(i=0∨i=1∨i=2)∧ix=.int .i64 i∧Y0 (FrSt w wr b1 b2 (.slice A1 l1 c1) (.slice A2 l2 c2) (XK x i) (frY x i))∧Y0 (frC x i)) (fun ix _=>(2-intOf ix).toNat)
 case atStart=>exact⟨0,.inl rfl,rfl,aW,⟨fun h=>absurd h (by decide),fun h=>absurd h (by decide)⟩⟩
 clear aW;obtain⟨i,hi,rfl,aW,HC⟩:=hrel;rcases hi with rfl|rfl|rfl
 ·have HW:Y0 (WAt wr (.slice A1 l1 c1) x.num.natAbs):=tL.o.parts.1.grow aW.o.b;have oq:=zh (aW.o.alloc (.cells #[.bool b1,.slice A1 l1 c1] 221));have VK:=zh (HW.o.grow ((yB _ wr).alloc (yA _) (.cells #[.bool b1,.slice A1 l1 c1] 221)));clear aW HW;by_cases hl:2<l1
  ·have q0:=oq.o.r.cell 0;have q1:=oq.o.r.cell 1;have f0:=oq.o.r.frozen 0;have f1:=oq.o.r.frozen 1;simp only[aB,aD,aA] at q0 q1;have HV:Y0 (bQ x=.tuple #[.agg #[.int .i64 0,.int .i64 0],.int .i64 5]):=uj (.inl (yK (by decide) (VK.o.long hl)));have hli:2<(l1:Int):=by omega
   clear hl;go_wp2_with fail;generalize wr.alloc (.cells #[.bool b1,.slice A1 l1 c1] 221)=W1 at*;refine YF (v:=.tuple #[.agg #[.int .i64 0,.int .i64 0],.int .i64 5]) (by simp[results,Tryz.results191,go_sem,q0,q1]) rfl ?_;exact⟨by rw[HV.o],(oq.o.b.setCell (p:=⟨w.heap.size+1,0,none⟩) (YH _) _).setCell (p:=⟨w.heap.size+1,1,none⟩) (YH _) _⟩
  have hli:(l1:Int)≤2:=by omega
  obtain⟨L,Dd,H7,XC,hL4⟩:=tL.o.parts.1.words;have HL2:=zh H7;have HL3:=zh XC;have HL4:=zh hL4;have CV:l1≤2:=by omega
  have HLl:=zh Dd;clear hl H7 XC hL4 Dd;go_wp2_with fail;obtain⟨wo,rfl⟩:∃wo:World,wo=wr:=⟨_,rfl⟩;obtain⟨W1,tJ⟩:=zo (wo.alloc (.cells #[.bool b1,.slice A1 l1 c1] 221));rw[tJ] at oq VK;simp only[tJ];clear tJ;go_loopw [27] (fun kx wr=>∃k:Nat,k≤l1∧kx=.int .i64 k∧Y0 (FrSt w wr b1 b2 (.slice A1 l1 c1) (.slice A2 l2 c2) (aJ (aZ L) k) (frY x 0)) ) (fun kx _=>l1-(intOf kx).toNat)
  case atStart=>exact⟨0,yI _,rfl,oq⟩
  clear oq;obtain⟨k,hk,rfl,aW⟩:=hrel;have k0:(0:Int)≤(k:Int):=yE _;by_cases aK:k<l1
  ·have k1:(k:Int)<(l1:Int):=by omega
   have k2:(32*(k:Int)).toNat=32*k:=by omega
   obtain⟨bb,oo,rfl,hx⟩:=HL4.o k aK;have hx:=(aW.o.b.cell (p:=⟨bb,oo+k,none⟩) (World.block_lt_of_cell? _ _ hx)).trans hx;have x0:aZ L k<4294967296:=ia HL2.o k;have HOr:=zh (Jf (f:=aZ L) (fun i=>ia HL2.o i) (show k≤1 by omega));have z1:=aW.o.n.cell 0;have z2:=aW.o.n.frozen 0;simp only[aB,aA] at z1;obtain⟨S2,hS2⟩:=zo (aJ (aZ L) (k+1));rw[hS2] at HOr;have gQ:=zh hS2;clear hS2;generalize aJ (aZ L) k=S1 at*
   generalize aZ L k=x1 at*;have x2:(x1:Int)<4294967296:=by omega
   have x3:(0:Int)≤(x1:Int):=yE _;go_wp2_with fail;refine hU 10 (by kernel_rfl) (by kernel_rfl) ?_;simp only[aO,aR,aP,aQ]
   repeat (go_big_quiet_step (fail))
   refine YE ?_;go_wp2_with fail;rw[HOr.o];have eP:=zh ((aW.o.set0 S2).drew);clear aW z1 z2 hx;go_roundw
   case rel=>exact⟨k+1,by omega,by go_num,by rw[gQ.o];exact eP⟩
   simp[intOf];omega
  obtain rfl:k=l1:=by omega
  have HZ:Y0 (aJ (aZ L) k=x.num.natAbs):=by
   unfold Y0;rw[←HLl.o];exact HL3.o
  rw[HZ.o] at aW;have z1:=aW.o.n.cell 0;simp only[aB,aA] at z1;clear HZ HL2 HL3 HL4 HLl VK;by_cases vP:1152921504606846976<x.num.natAbs
  ·have HV:Y0 (bQ x=.tuple #[.agg #[.int .i64 0,.int .i64 0],.int .i64 5]):=uj (.inl vP);have q0:=aW.o.r.cell 0;have q1:=aW.o.r.cell 1;have f0:=aW.o.r.frozen 0;have f1:=aW.o.r.frozen 1;simp only[aB,aD,aA] at q0 q1;have hd:decide (1152921504606846976<((x.num.natAbs:Nat):Int))=true:=yD (by omega);have mA:decide (1152921504606846976<x.num.natAbs)=true:=yD vP;clear vP;go_wp2_with fail;refine YF (v:=.tuple #[.agg #[.int .i64 0,.int .i64 0],.int .i64 5]) (by simp[results,Tryz.results191,go_sem,q0,q1]) rfl ?_
   exact⟨by rw[HV.o],(aW.o.b.setCell (p:=⟨w.heap.size+1,0,none⟩) (YH _) _).setCell (p:=⟨w.heap.size+1,1,none⟩) (YH _) _⟩
  have hd:decide (1152921504606846976<((x.num.natAbs:Nat):Int))=false:=yC (by omega);have mA:decide (1152921504606846976<x.num.natAbs)=false:=yC vP;have x7:Y0 (frC x 1):=⟨fun _=>by omega,fun h=>absurd h (by decide)⟩;clear vP;go_wp2_with fail;clear z1;go_roundw
  case rel=>exact⟨1,.inr (.inl rfl),rfl,aW,x7⟩
  simp[intOf]
 ·have HW:Y0 (WAt wr (.slice A2 l2 c2) x.den):=(Int.natAbs_natCast x.den)▸kl.o.parts.1.grow aW.o.b;have oq:=zh (aW.o.alloc (.cells #[.bool b2,.slice A2 l2 c2] 221));have VK:=zh (HW.o.grow ((yB _ wr).alloc (yA _) (.cells #[.bool b2,.slice A2 l2 c2] 221)));clear aW HW;by_cases hl:2<l2
  ·have q0:=oq.o.r.cell 0;have q1:=oq.o.r.cell 1;have f0:=oq.o.r.frozen 0;have f1:=oq.o.r.frozen 1;simp only[aB,aD,aA] at q0 q1;have HV:Y0 (bQ x=.tuple #[.agg #[.int .i64 0,.int .i64 0],.int .i64 5]):=uj (.inr (yK (by decide) (VK.o.long hl)));have hli:2<(l2:Int):=by omega
   clear hl;go_wp2_with fail;generalize wr.alloc (.cells #[.bool b2,.slice A2 l2 c2] 221)=W1 at*;refine YF (v:=.tuple #[.agg #[.int .i64 0,.int .i64 0],.int .i64 5]) (by simp[results,Tryz.results191,go_sem,q0,q1]) rfl ?_;exact⟨by rw[HV.o],(oq.o.b.setCell (p:=⟨w.heap.size+1,0,none⟩) (YH _) _).setCell (p:=⟨w.heap.size+1,1,none⟩) (YH _) _⟩
  have hli:(l2:Int)≤2:=by omega
  obtain⟨L,Dd,H7,XC,hL4⟩:=kl.o.parts.1.words;have HL2:=zh H7;have HL3:=zh XC;have HL4:=zh hL4;have CV:l2≤2:=by omega
  have HLl:=zh Dd;clear hl H7 XC hL4 Dd;go_wp2_with fail;obtain⟨wo,rfl⟩:∃wo:World,wo=wr:=⟨_,rfl⟩;obtain⟨W1,tJ⟩:=zo (wo.alloc (.cells #[.bool b2,.slice A2 l2 c2] 221));rw[tJ] at oq VK;simp only[tJ];clear tJ;go_loopw [27] (fun kx wr=>∃k:Nat,k≤l2∧kx=.int .i64 k∧Y0 (FrSt w wr b1 b2 (.slice A1 l1 c1) (.slice A2 l2 c2) (XK x 1) (aJ (aZ L) k)) ) (fun kx _=>l2-(intOf kx).toNat)
  case atStart=>exact⟨0,yI _,rfl,oq⟩
  clear oq;obtain⟨k,hk,rfl,aW⟩:=hrel;have k0:(0:Int)≤(k:Int):=yE _;by_cases aK:k<l2
  ·have k1:(k:Int)<(l2:Int):=by omega
   have k2:(32*(k:Int)).toNat=32*k:=by omega
   obtain⟨bb,oo,rfl,hx⟩:=HL4.o k aK;have hx:=(aW.o.b.cell (p:=⟨bb,oo+k,none⟩) (World.block_lt_of_cell? _ _ hx)).trans hx;have x0:aZ L k<4294967296:=ia HL2.o k;have HOr:=zh (Jf (f:=aZ L) (fun i=>ia HL2.o i) (show k≤1 by omega));have z1:=aW.o.n.cell 1;have z2:=aW.o.n.frozen 1;simp only[aB,aD,aA] at z1;obtain⟨S2,hS2⟩:=zo (aJ (aZ L) (k+1));rw[hS2] at HOr;have gQ:=zh hS2;clear hS2;generalize aJ (aZ L) k=S1 at*
   generalize aZ L k=x1 at*;have x2:(x1:Int)<4294967296:=by omega
   have x3:(0:Int)≤(x1:Int):=yE _;go_wp2_with fail;refine hU 10 (by kernel_rfl) (by kernel_rfl) ?_;simp only[aO,aR,aP,aQ]
   repeat (go_big_quiet_step (fail))
   refine YE ?_;go_wp2_with fail;rw[HOr.o];have eP:=zh ((aW.o.set1 S2).drew);clear aW z1 z2 hx;go_roundw
   case rel=>exact⟨k+1,by omega,by go_num,by rw[gQ.o];exact eP⟩
   simp[intOf];omega
  obtain rfl:k=l2:=by omega
  have HZ:Y0 (aJ (aZ L) k=x.den):=by
   unfold Y0;rw[←HLl.o];exact HL3.o
  rw[HZ.o] at aW;have z1:=aW.o.n.cell 1;simp only[aB,aD,aA] at z1;clear HZ HL2 HL3 HL4 HLl VK;by_cases vP:1152921504606846976<x.den
  ·have HV:Y0 (bQ x=.tuple #[.agg #[.int .i64 0,.int .i64 0],.int .i64 5]):=uj (.inr vP);have q0:=aW.o.r.cell 0;have q1:=aW.o.r.cell 1;have f0:=aW.o.r.frozen 0;have f1:=aW.o.r.frozen 1;simp only[aB,aD,aA] at q0 q1;have hd:decide (1152921504606846976<((x.den:Nat):Int))=true:=yD (by omega);have mA:decide (1152921504606846976<x.den)=true:=yD vP;clear vP;go_wp2_with fail;refine YF (v:=.tuple #[.agg #[.int .i64 0,.int .i64 0],.int .i64 5]) (by simp[results,Tryz.results191,go_sem,q0,q1]) rfl ?_
   exact⟨by rw[HV.o],(aW.o.b.setCell (p:=⟨w.heap.size+1,0,none⟩) (YH _) _).setCell (p:=⟨w.heap.size+1,1,none⟩) (YH _) _⟩
  have hd:decide (1152921504606846976<((x.den:Nat):Int))=false:=yC (by omega);have mA:decide (1152921504606846976<x.den)=false:=yC vP;have x7:Y0 (frC x 2):=⟨fun _=>HC.o.1 (by decide),fun _=>by omega⟩;clear vP;go_wp2_with fail;clear z1;go_roundw
  case rel=>exact⟨2,.inr (.inr rfl),rfl,aW,x7⟩
  simp[intOf]
 obtain⟨n0,n1⟩:=aW.o.n.c2;have m1:((XK x 2:Nat):Int)≤1152921504606846976:=by have:=HC.o.1 (by decide);show (((if (1:Int)≤2 then x.num.natAbs else 0:Nat)):Int)≤_;rw[if_pos (by decide)];omega
 have m2:((frY x 2:Nat):Int)≤1152921504606846976:=by have:=HC.o.2 (by decide);show (((if (2:Int)≤2 then x.den else 0:Nat)):Int)≤_;rw[if_pos (by decide)];omega
 have HV:Y0 (bQ x=.tuple #[.agg #[.int .i64 x.num,.int .i64 ((frY x 2:Nat):Int)],.int .i64 0]):=RO (HC.o.1 (by decide)) (HC.o.2 (by decide));have HN:Y0 (x.num=if b1=true then -((XK x 2:Nat):Int) else ((XK x 2:Nat):Int)):=by
  obtain⟨neg,s',m,e,h2,h3⟩:=tL.o;simp only[Value.agg.injEq,Array.mk.injEq,List.cons.injEq,and_true,Value.bool.injEq] at e;have hm:x.num.natAbs=m:=by rw[h3];cases neg <;> simp
  show x.num=if b1=true then -((x.num.natAbs:Nat):Int) else ((x.num.natAbs:Nat):Int)
  rw[e.1,hm];exact h3
 have m3:(0:Int)≤((XK x 2:Nat):Int):=yE _;have m4:(0:Int)≤((frY x 2:Nat):Int):=yE _;generalize ((XK x 2:Nat):Int)=X at*;generalize ((frY x 2:Nat):Int)=Y at*;cases b1
 ·have HA:=aW.o.alloc (.cells #[.int .i64 (X),.int .i64 Y] 23);have a0:=HA.a.cell 0;have r0:=HA.r.cell 0;have r1:=HA.r.cell 1;have g0:=HA.r.frozen 0;have g1:=HA.r.frozen 1;simp only[aB,aD,aA] at a0 r0 r1;have HA:=zh HA;go_wp2_with fail;refine YF (v:=.tuple #[.agg #[.int .i64 (X),.int .i64 Y],.int .i64 0]) (by simp[results,Tryz.results191,go_sem,r0,r1]) rfl ?_;exact⟨by rw[HV.o,HN.o];rfl,(HA.o.b.setCell (p:=⟨w.heap.size+1,0,none⟩) (YH _) _).setCell (p:=⟨w.heap.size+1,1,none⟩) (YH _) _⟩
 have HA:=aW.o.alloc (.cells #[.int .i64 (X),.int .i64 Y] 23);have a0:=HA.a.cell 0;have r0:=HA.r.cell 0;have r1:=HA.r.cell 1;have g0:=HA.r.frozen 0;have g1:=HA.r.frozen 1;simp only[aB,aD,aA] at a0 r0 r1;have HA:=zh HA;have Ym:=aW.o.alloc (.cells #[.int .i64 (-X),.int .i64 Y] 23);have a0n:=Ym.a.cell 0;have r0n:=Ym.r.cell 0;have r1n:=Ym.r.cell 1;have g0n:=Ym.r.frozen 0;have g1n:=Ym.r.frozen 1;simp only[aB,aD,aA] at a0n r0n r1n
 have Ym:=zh Ym;go_wp2_with fail;refine YF (v:=.tuple #[.agg #[.int .i64 (-X),.int .i64 Y],.int .i64 0]) (by simp[results,Tryz.results191,go_sem,r0n,r1n]) rfl ?_;exact⟨by rw[HV.o,HN.o];rfl,(Ym.o.b.setCell (p:=⟨w.heap.size+1,0,none⟩) (YH _) _).setCell (p:=⟨w.heap.size+1,1,none⟩) (YH _) _⟩
theorem fl {a K M:Nat} (h:a<4294967296^K) (hM:K≤M):a<4294967296^M:=yK h (Nat.pow_le_pow_right (by decide) hM)
theorem eB {n K:Nat} (h:n<4294967296^K):(n:Int).natAbs<4294967296^K:=by rw[Int.natAbs_natCast];exact h
theorem VA {x y:Int} {K:Nat} (hx:x.natAbs<4294967296^K) (hy:y.natAbs<4294967296^K):(x+y).natAbs<4294967296^(K+1):=by
 have h:=Int.natAbs_add_le x y;rw[yW];omega
theorem fA (v u:Value) (x y:Rat) (K M:Nat) (w:World) (hv:ExactAt w v x) (hu:ExactAt w u y) (hx:cg x K) (hy:cg y M) (hK:K+M+1≤400000) :
  Calls Tryz.prog 193 #[v,u] w (MakesE (x+y) w):=by
 obtain⟨kA,kC,ku,k7,k8,kB,kt,ky,rfl,cG,dc⟩:=hv.form;obtain⟨pL,pM,pJ,pK,oM,oN,oK,oL,rfl,nJ,tD⟩:=hu.form;have HV:=zh hv;have HU:=zh hu;have HX:=zh hx;have HY:=zh hy;have tv:=zh (fB hx.1 (eB hy.2));have gQ:Y0 ((y.num*(x.den:Int)).natAbs<4294967296^(K+M)):=by
  unfold Y0;rw[Nat.add_comm];exact fB hy.1 (eB hx.2)
 have mR:=zh (VA tv.o gQ.o);have gF:Y0 (((x.den:Int)*(y.den:Int)).natAbs<4294967296^(K+M+1)):=fl (fB (eB hx.2) (eB hy.2)) (YH _);have HD:Y0 ((x.den:Int)*(y.den:Int)≠0):=Int.mul_ne_zero (sG x) (sG y);have HE:Y0 (Rat.divInt (x.num*(y.den:Int)+y.num*(x.den:Int)) ((x.den:Int)*(y.den:Int))=x+y):=by
  unfold Y0;rw[IQ,Int.natCast_mul]
 have tL:=zh cG;have kl:=zh dc;have oV:=zh nJ;have qp:=zh tD;have HK:=zh hK;have mJ:=zh (cu w 223 223 223 (zD kA kC ku k7 k8 kB kt ky) (zD pL pM pJ pK oM oN oK oL) (zD false none 0 0 false none 0 0));clear hv hu cG dc nJ tD hx hy hK;go_enter Tryz.func193,Tryz.ntmps193;go_wp2_with fail;generalize ((w.alloc (.cells (zD kA kC ku k7 k8 kB kt ky) 223)).alloc (.cells (zD pL pM pJ pK oM oN oK oL) 223)).alloc (.cells (zD false none 0 0 false none 0 0) 223)=W3 at*
 obtain⟨B1,B2,B3,bE⟩:=mJ.o;have gT:=B1.cell 0;have jz:=B1.cell 1;have oO:=B1.cell 2;have pP:=B1.cell 3;have jb:=B2.cell 0;have iJ:=B2.cell 1;have pO:=B2.cell 2;have pN:=B2.cell 3;simp only[aB,aD,aA] at gT jz oO pP jb iJ pO pN;have sR:=YL gT;have tB:=YL jz;have B7:=YL oO;have Ep:=YL pP;have wQ:=YL jb;have tR:=YL iJ;have EO:=YL pO;have EN:=YL pN;have B3:=zh B3;have bE:=zh bE;clear mJ B1 B2 gT jz oO pP jb iJ pO pN
 refine af 17 (fun i=>if i=4 then some (gN (x.num*(y.den:Int))) else if i=9 then some (gN (y.num*(x.den:Int))) else if i=10 then some (gN (x.num*(y.den:Int)+y.num*(x.den:Int))) else if i=15 then some (gN ((x.den:Int)*(y.den:Int))) else if i=16 then some (gE (x+y)) else none) (by kernel_rfl) (by kernel_rfl) ?_;simp only[aO,aR,aP,aQ];refine zw 4 ?_;simp only[aO,aR,aP,aQ]
 repeat (go_big_quiet_step (fail))
 refine YE ?_;refine ae rfl rfl ?_ ?_
 ·intro w1 ak hk;have hb:=bE.o.trans (ak.mono bE.o.size);have hC:=MakesN.g (kI _ _ _ _ (K+M) w1 (tL.o.grow hb) (qp.o.grow hb) (by have:=HK.o;omega) ((fl HX.o.1 (Nat.le_add_right K M))) ((fl (eB HY.o.2) (Nat.le_add_left M K))));exact zc hC
 rintro _ ⟨Fl,Fo,r9l,Fj,rfl⟩;simp only[Act.put,aw,av,au];refine zw 4 ?_;simp only[aO,aR,aP,aQ]
 repeat (go_big_quiet_step (fail))
 refine YE ?_;refine ae rfl rfl ?_ ?_
 ·intro w1 ak hk;have hb:=bE.o.trans (ak.mono bE.o.size);have hC:=MakesN.g (kI _ _ _ _ (K+M) w1 (oV.o.grow hb) (kl.o.grow hb) (by have:=HK.o;omega) ((fl HY.o.1 (Nat.le_add_left M K))) ((fl (eB HX.o.2) (Nat.le_add_right K M))));exact zc hC
 rintro _ ⟨pE,pG,PI,pD,rfl⟩;simp only[Act.put,aw,av,au];refine ae rfl rfl ?_ ?_
 ·intro w1 ak hk;have hb:=bE.o.trans (ak.mono bE.o.size);have h9:NumAt w1 (.agg #[.bool Fl,.slice Fo r9l Fj]) (x.num*(y.den:Int)):=hk 9 (by decide);have My:NumAt w1 (.agg #[.bool pE,.slice pG PI pD]) (y.num*(x.den:Int)):=hk 14 (by decide);have hC:=MakesN.g (qzg _ _ _ _ (K+M) w1 h9 My (by have:=HK.o;omega) tv.o gQ.o);exact zc hC
 rintro _ ⟨Ph,Pj,vqu,Pg,rfl⟩;simp only[Act.put,aw,av,au];refine zw 4 ?_;simp only[aO,aR,aP,aQ]
 repeat (go_big_quiet_step (fail))
 refine YE ?_;refine ae rfl rfl ?_ ?_
 ·intro w1 ak hk;have hb:=bE.o.trans (ak.mono bE.o.size);have hC:=MakesN.g (kI _ _ _ _ (K+M) w1 (kl.o.grow hb) (qp.o.grow hb) (by have:=HK.o;omega) ((fl (eB HX.o.2) (Nat.le_add_right K M))) ((fl (eB HY.o.2) (Nat.le_add_left M K))));exact zc hC
 rintro _ ⟨OB,OC,vqt,OA,rfl⟩;simp only[Act.put,aw,av,au];refine ae rfl rfl ?_ ?_
 ·intro w1 ak hk;have hb:=bE.o.trans (ak.mono bE.o.size);have h15:NumAt w1 (.agg #[.bool Ph,.slice Pj vqu Pg]) (x.num*(y.den:Int)+y.num*(x.den:Int)):=hk 15 (by decide);have Mx:NumAt w1 (.agg #[.bool OB,.slice OC vqt OA]) ((x.den:Int)*(y.den:Int)):=hk 20 (by decide);have hC:=MakesE.g (HE.o▸ru _ _ _ _ (K+M+1) w1 h15 Mx HD.o HK.o mR.o gF.o);exact zc hC
 rintro _ ⟨WZ,Xb,WV,WX,WY,Xa,WU,WW,rfl⟩;simp only[Act.put,aw,av,au];refine Zc ?_;intro w8 aT hF;have hL:ExactAt w8 (.agg (zD WZ Xb WV WX WY Xa WU WW)) (x+y):=hF 21;have HL:=zh hL;have bp:=zh (B3.o.below aT B3.o.lt);have eG:=zh (bE.o.trans (aT.mono bE.o.size));have q0:=bp.o.cell 0;have q1:=bp.o.cell 1;have q2:=bp.o.cell 2;have q3:=bp.o.cell 3;have f0:=bp.o.frozen 0;have f1:=bp.o.frozen 1;have f2:=bp.o.frozen 2
 have f3:=bp.o.frozen 3;simp only[aB,aD,aA] at q0 q1 q2 q3;clear hF hL aT B3 bE sR tB B7 Ep wQ tR EO EN;go_wp2_with fail;refine YF (v:=.agg (zD WZ Xb WV WX WY Xa WU WW)) (by simp[results,Tryz.results193,go_sem,q0,q1,q2,q3]) rfl ?_;exact⟨bI eG.o (by omega) _ _ _ _,_,rfl,HL.o.stored bp.o _ _ _ _⟩
theorem jg (v u:Value) (x y:Rat) (K M:Nat) (w:World) (hv:ExactAt w v x) (hu:ExactAt w u y) (hx:cg x K) (hy:cg y M) (hK:K+M+1≤400000) :
  Calls Tryz.prog 195 #[v,u] w (MakesE (x-y) w):=by
 obtain⟨kA,kC,ku,k7,k8,kB,kt,ky,rfl,cG,dc⟩:=hv.form;obtain⟨pL,pM,pJ,pK,oM,oN,oK,oL,rfl,nJ,tD⟩:=hu.form;have HV:=zh hv;have HU:=zh hu;have HX:=zh hx;have HY:=zh hy;have HE:Y0 (x + -y=x-y):=(Rat.sub_eq_add_neg x y).symm;have tL:=zh cG;have kl:=zh dc;have oV:=zh nJ;have qp:=zh tD;have HK:=zh hK;have mJ:=zh (cu w 223 223 223 (zD kA kC ku k7 k8 kB kt ky) (zD pL pM pJ pK oM oN oK oL) (zD false none 0 0 false none 0 0))
 clear hv hu cG dc nJ tD hx hy hK;go_enter Tryz.func195,Tryz.ntmps195;go_wp2_with fail;generalize ((w.alloc (.cells (zD kA kC ku k7 k8 kB kt ky) 223)).alloc (.cells (zD pL pM pJ pK oM oN oK oL) 223)).alloc (.cells (zD false none 0 0 false none 0 0) 223)=W3 at*;obtain⟨B1,B2,B3,bE⟩:=mJ.o;have gT:=B1.cell 0;have jz:=B1.cell 1;have oO:=B1.cell 2;have pP:=B1.cell 3;have jb:=B2.cell 0;have iJ:=B2.cell 1
 have pO:=B2.cell 2;have pN:=B2.cell 3;simp only[aB,aD,aA] at gT jz oO pP jb iJ pO pN;have sR:=YL gT;have tB:=YL jz;have B7:=YL oO;have Ep:=YL pP;have wQ:=YL jb;have tR:=YL iJ;have EO:=YL pO;have EN:=YL pN;have B3:=zh B3;have bE:=zh bE;clear mJ B1 B2 gT jz oO pP jb iJ pO pN;refine af 8 (fun i=>if i=3 then some (gN (-y.num)) else if i=7 then some (gE (x-y)) else none) (by kernel_rfl) (by kernel_rfl) ?_
 simp only[aO,aR,aP,aQ];refine zw 3 ?_;simp only[aO,aR,aP,aQ]
 repeat (go_big_quiet_step (fail))
 refine YE ?_;refine ae rfl rfl ?_ ?_
 ·intro w1 ak hk;have hb:=bE.o.trans (ak.mono bE.o.size);have hC:=MakesN.g (Sz _ _ w1 (oV.o.grow hb));exact zc hC
 rintro _ ⟨r8b,r8A,r8l,r8c,rfl⟩;simp only[Act.put,aw,av,au];refine zw 3 ?_;simp only[aO,aR,aP,aQ]
 repeat (go_big_quiet_step (fail))
 refine YE ?_;refine ae rfl rfl ?_ ?_
 ·intro w1 ak hk;have hb:=bE.o.trans (ak.mono bE.o.size);have h8:NumAt w1 (.agg #[.bool r8b,.slice r8A r8l r8c]) (-y.num):=hk 11 (by decide) 8 (by decide);have hE:ExactAt w1 (.agg (zD r8b r8A r8l r8c oM oN oK oL)) (-y):=⟨_,_,_,_,rfl,by rw[Rat.neg_num];exact h8,by rw[Rat.neg_den];exact qp.o.grow hb⟩;have hC:=MakesE.g (HE.o▸fA _ _ x (-y) K M w1 (HV.o.grow hb) hE HX.o (Dp HY.o) HK.o);exact zc hC
 rintro _ ⟨Cy,C0,Cu,Cw,Cx,Cz,Ct,Cv,rfl⟩;simp only[Act.put,aw,av,au];refine Zc ?_;intro w8 aT hF;have hL:ExactAt w8 (.agg (zD Cy C0 Cu Cw Cx Cz Ct Cv)) (x-y):=hF 12;have HL:=zh hL;have bp:=zh (B3.o.below aT B3.o.lt);have eG:=zh (bE.o.trans (aT.mono bE.o.size));have q0:=bp.o.cell 0;have q1:=bp.o.cell 1;have q2:=bp.o.cell 2;have q3:=bp.o.cell 3;have f0:=bp.o.frozen 0;have f1:=bp.o.frozen 1;have f2:=bp.o.frozen 2
 have f3:=bp.o.frozen 3;simp only[aB,aD,aA] at q0 q1 q2 q3;clear hF hL aT B3 bE sR tB B7 Ep wQ tR EO EN;go_wp2_with fail;refine YF (v:=.agg (zD Cy C0 Cu Cw Cx Cz Ct Cv)) (by simp[results,Tryz.results195,go_sem,q0,q1,q2,q3]) rfl ?_;exact⟨bI eG.o (by omega) _ _ _ _,_,rfl,HL.o.stored bp.o _ _ _ _⟩
theorem ry (v u:Value) (x y:Rat) (K M:Nat) (w:World) (hv:ExactAt w v x) (hu:ExactAt w u y) (hx:cg x K) (hy:cg y M) (hK:K+M+1≤400000) :
  Calls Tryz.prog 237 #[v,u] w (MakesE (x*y) w):=by
 obtain⟨kA,kC,ku,k7,k8,kB,kt,ky,rfl,cG,dc⟩:=hv.form;obtain⟨pL,pM,pJ,pK,oM,oN,oK,oL,rfl,nJ,tD⟩:=hu.form;have HV:=zh hv;have HU:=zh hu;have HX:=zh hx;have HY:=zh hy;have tv:=zh (fB hx.1 hy.1);have gQ:=zh (fB (eB hx.2) (eB hy.2));have HD:Y0 ((x.den:Int)*(y.den:Int)≠0):=Int.mul_ne_zero (sG x) (sG y);have HE:Y0 (Rat.divInt (x.num*y.num) ((x.den:Int)*(y.den:Int))=x*y):=by
  unfold Y0;rw[IL,Int.natCast_mul]
 have tL:=zh cG;have kl:=zh dc;have oV:=zh nJ;have qp:=zh tD;have HK:=zh hK;have mJ:=zh (cu w 223 223 223 (zD kA kC ku k7 k8 kB kt ky) (zD pL pM pJ pK oM oN oK oL) (zD false none 0 0 false none 0 0));clear hv hu cG dc nJ tD hx hy hK;go_enter Tryz.func237,Tryz.ntmps237;go_wp2_with fail;generalize ((w.alloc (.cells (zD kA kC ku k7 k8 kB kt ky) 223)).alloc (.cells (zD pL pM pJ pK oM oN oK oL) 223)).alloc (.cells (zD false none 0 0 false none 0 0) 223)=W3 at*
 obtain⟨B1,B2,B3,bE⟩:=mJ.o;have gT:=B1.cell 0;have jz:=B1.cell 1;have oO:=B1.cell 2;have pP:=B1.cell 3;have jb:=B2.cell 0;have iJ:=B2.cell 1;have pO:=B2.cell 2;have pN:=B2.cell 3;simp only[aB,aD,aA] at gT jz oO pP jb iJ pO pN;have sR:=YL gT;have tB:=YL jz;have B7:=YL oO;have Ep:=YL pP;have wQ:=YL jb;have tR:=YL iJ;have EO:=YL pO;have EN:=YL pN;have B3:=zh B3;have bE:=zh bE;clear mJ B1 B2 gT jz oO pP jb iJ pO pN
 refine af 11 (fun i=>if i=4 then some (gN (x.num*y.num)) else if i=9 then some (gN ((x.den:Int)*(y.den:Int))) else if i=10 then some (gE (x*y)) else none) (by kernel_rfl) (by kernel_rfl) ?_;simp only[aO,aR,aP,aQ];refine zw 4 ?_;simp only[aO,aR,aP,aQ]
 repeat (go_big_quiet_step (fail))
 refine YE ?_;refine ae rfl rfl ?_ ?_
 ·intro w1 ak hk;have hb:=bE.o.trans (ak.mono bE.o.size);have hC:=MakesN.g (kI _ _ _ _ (K+M) w1 (tL.o.grow hb) (oV.o.grow hb) (by have:=HK.o;omega) ((fl HX.o.1 (Nat.le_add_right K M))) ((fl HY.o.1 (Nat.le_add_left M K))));exact zc hC
 rintro _ ⟨Fl,Fo,r9l,Fj,rfl⟩;simp only[Act.put,aw,av,au];refine zw 4 ?_;simp only[aO,aR,aP,aQ]
 repeat (go_big_quiet_step (fail))
 refine YE ?_;refine ae rfl rfl ?_ ?_
 ·intro w1 ak hk;have hb:=bE.o.trans (ak.mono bE.o.size);have hC:=MakesN.g (kI _ _ _ _ (K+M) w1 (kl.o.grow hb) (qp.o.grow hb) (by have:=HK.o;omega) ((fl (eB HX.o.2) (Nat.le_add_right K M))) ((fl (eB HY.o.2) (Nat.le_add_left M K))));exact zc hC
 rintro _ ⟨pE,pG,PI,pD,rfl⟩;simp only[Act.put,aw,av,au];refine ae rfl rfl ?_ ?_
 ·intro w1 ak hk;have hb:=bE.o.trans (ak.mono bE.o.size);have h9:NumAt w1 (.agg #[.bool Fl,.slice Fo r9l Fj]) (x.num*y.num):=hk 9 (by decide);have My:NumAt w1 (.agg #[.bool pE,.slice pG PI pD]) ((x.den:Int)*(y.den:Int)):=hk 14 (by decide);have hC:=MakesE.g (HE.o▸ru _ _ _ _ (K+M) w1 h9 My HD.o (by have:=HK.o;omega) tv.o gQ.o);exact zc hC
 rintro _ ⟨Cq,Cs,Cm,Co,Cp,Cr,Cl,Cn,rfl⟩;simp only[Act.put,aw,av,au];refine Zc ?_;intro w8 aT hF;have hL:ExactAt w8 (.agg (zD Cq Cs Cm Co Cp Cr Cl Cn)) (x*y):=hF 15;have HL:=zh hL;have bp:=zh (B3.o.below aT B3.o.lt);have eG:=zh (bE.o.trans (aT.mono bE.o.size));have q0:=bp.o.cell 0;have q1:=bp.o.cell 1;have q2:=bp.o.cell 2;have q3:=bp.o.cell 3;have f0:=bp.o.frozen 0;have f1:=bp.o.frozen 1;have f2:=bp.o.frozen 2
 have f3:=bp.o.frozen 3;simp only[aB,aD,aA] at q0 q1 q2 q3;clear hF hL aT B3 bE sR tB B7 Ep wQ tR EO EN;go_wp2_with fail;refine YF (v:=.agg (zD Cq Cs Cm Co Cp Cr Cl Cn)) (by simp[results,Tryz.results237,go_sem,q0,q1,q2,q3]) rfl ?_;exact⟨bI eG.o (by omega) _ _ _ _,_,rfl,HL.o.stored bp.o _ _ _ _⟩
theorem JQ (v u:Value) (x y:Rat) (K M:Nat) (w:World) (hv:ExactAt w v x) (hu:ExactAt w u y) (hx:cg x K) (hy:cg y M) (hz:y.num≠0) (hK:K+M+1≤400000) :
  Calls Tryz.prog 196 #[v,u] w (MakesE (x/y) w):=by
 obtain⟨kA,kC,ku,k7,k8,kB,kt,ky,rfl,cG,dc⟩:=hv.form;obtain⟨pL,pM,pJ,pK,oM,oN,oK,oL,rfl,nJ,tD⟩:=hu.form;have HV:=zh hv;have HU:=zh hu;have HX:=zh hx;have HY:=zh hy;have tv:=zh (fB hx.1 (eB hy.2));have gQ:=zh (fB (eB hx.2) hy.1);have HD:Y0 ((x.den:Int)*y.num≠0):=Int.mul_ne_zero (sG x) hz;have HE:Y0 (Rat.divInt (x.num*(y.den:Int)) ((x.den:Int)*y.num)=x/y):=by
  unfold Y0;rw[IP]
 clear hz;have tL:=zh cG;have kl:=zh dc;have oV:=zh nJ;have qp:=zh tD;have HK:=zh hK;have mJ:=zh (cu w 223 223 223 (zD kA kC ku k7 k8 kB kt ky) (zD pL pM pJ pK oM oN oK oL) (zD false none 0 0 false none 0 0));clear hv hu cG dc nJ tD hx hy hK;go_enter Tryz.func196,Tryz.ntmps196;go_wp2_with fail;generalize ((w.alloc (.cells (zD kA kC ku k7 k8 kB kt ky) 223)).alloc (.cells (zD pL pM pJ pK oM oN oK oL) 223)).alloc (.cells (zD false none 0 0 false none 0 0) 223)=W3 at*
 obtain⟨B1,B2,B3,bE⟩:=mJ.o;have gT:=B1.cell 0;have jz:=B1.cell 1;have oO:=B1.cell 2;have pP:=B1.cell 3;have jb:=B2.cell 0;have iJ:=B2.cell 1;have pO:=B2.cell 2;have pN:=B2.cell 3;simp only[aB,aD,aA] at gT jz oO pP jb iJ pO pN;have sR:=YL gT;have tB:=YL jz;have B7:=YL oO;have Ep:=YL pP;have wQ:=YL jb;have tR:=YL iJ;have EO:=YL pO;have EN:=YL pN;have B3:=zh B3;have bE:=zh bE;clear mJ B1 B2 gT jz oO pP jb iJ pO pN
 refine af 11 (fun i=>if i=4 then some (gN (x.num*(y.den:Int))) else if i=9 then some (gN ((x.den:Int)*y.num)) else if i=10 then some (gE (x/y)) else none) (by kernel_rfl) (by kernel_rfl) ?_;simp only[aO,aR,aP,aQ];refine zw 4 ?_;simp only[aO,aR,aP,aQ]
 repeat (go_big_quiet_step (fail))
 refine YE ?_;refine ae rfl rfl ?_ ?_
 ·intro w1 ak hk;have hb:=bE.o.trans (ak.mono bE.o.size);have hC:=MakesN.g (kI _ _ _ _ (K+M) w1 (tL.o.grow hb) (qp.o.grow hb) (by have:=HK.o;omega) ((fl HX.o.1 (Nat.le_add_right K M))) ((fl (eB HY.o.2) (Nat.le_add_left M K))));exact zc hC
 rintro _ ⟨Fl,Fo,r9l,Fj,rfl⟩;simp only[Act.put,aw,av,au];refine zw 4 ?_;simp only[aO,aR,aP,aQ]
 repeat (go_big_quiet_step (fail))
 refine YE ?_;refine ae rfl rfl ?_ ?_
 ·intro w1 ak hk;have hb:=bE.o.trans (ak.mono bE.o.size);have hC:=MakesN.g (kI _ _ _ _ (K+M) w1 (kl.o.grow hb) (oV.o.grow hb) (by have:=HK.o;omega) ((fl (eB HX.o.2) (Nat.le_add_right K M))) ((fl HY.o.1 (Nat.le_add_left M K))));exact zc hC
 rintro _ ⟨pE,pG,PI,pD,rfl⟩;simp only[Act.put,aw,av,au];refine ae rfl rfl ?_ ?_
 ·intro w1 ak hk;have hb:=bE.o.trans (ak.mono bE.o.size);have h9:NumAt w1 (.agg #[.bool Fl,.slice Fo r9l Fj]) (x.num*(y.den:Int)):=hk 9 (by decide);have My:NumAt w1 (.agg #[.bool pE,.slice pG PI pD]) ((x.den:Int)*y.num):=hk 14 (by decide);have hC:=MakesE.g (HE.o▸ru _ _ _ _ (K+M) w1 h9 My HD.o (by have:=HK.o;omega) tv.o gQ.o);exact zc hC
 rintro _ ⟨Cq,Cs,Cm,Co,Cp,Cr,Cl,Cn,rfl⟩;simp only[Act.put,aw,av,au];refine Zc ?_;intro w8 aT hF;have hL:ExactAt w8 (.agg (zD Cq Cs Cm Co Cp Cr Cl Cn)) (x/y):=hF 15;have HL:=zh hL;have bp:=zh (B3.o.below aT B3.o.lt);have eG:=zh (bE.o.trans (aT.mono bE.o.size));have q0:=bp.o.cell 0;have q1:=bp.o.cell 1;have q2:=bp.o.cell 2;have q3:=bp.o.cell 3;have f0:=bp.o.frozen 0;have f1:=bp.o.frozen 1;have f2:=bp.o.frozen 2
 have f3:=bp.o.frozen 3;simp only[aB,aD,aA] at q0 q1 q2 q3;clear hF hL aT B3 bE sR tB B7 Ep wQ tR EO EN;go_wp2_with fail;refine YF (v:=.agg (zD Cq Cs Cm Co Cp Cr Cl Cn)) (by simp[results,Tryz.results196,go_sem,q0,q1,q2,q3]) rfl ?_;exact⟨bI eG.o (by omega) _ _ _ _,_,rfl,HL.o.stored bp.o _ _ _ _⟩
theorem mn (l:List Int) (x:Int):dB (l++[x])=dB l*x:=by simp[dB,List.foldl_append]
theorem xP {l:List Int} (h:∀x∈l,x.natAbs ≤ 4611686018427387904):∀k,k ≤ l.length→(dB (l.take k)).natAbs < 4294967296^(2 * k + 1)
 | 0,_=>by simp[dB]
 | k+1,hk=>by
  have ih:=xP h k (by omega);rw[bF l k (by omega),mn];have h1:=h l[k] (yV (by omega));have h2:l[k].natAbs<4294967296^2:=by
   have:(4294967296:Nat)^2=18446744073709551616:=by decide
   omega
  have h3:=fB ih h2;rwa [show 2*k+1+2=2*(k+1)+1 by omega] at h3
theorem xT {x:Int} (h:x.natAbs≤4611686018427387904):x.natAbs<4294967296^20:=by
 have e:(4294967296:Nat)^2=18446744073709551616:=by decide
 exact fl (K:=2) (by omega) (by decide)
def NumBox (w:World) (D:Nat) (z:Int):Prop:=∃b A l c,Blk w D 221 #[.bool b,.slice A l c]∧NumAt w (.agg #[.bool b,.slice A l c]) z
theorem NumBox.grow {w w':World} {D:Nat} {z:Int} (h:NumBox w D z) (hb:Below w.heap.size w w'):NumBox w' D z:=by
 obtain⟨b,A,l,c,h1,h2⟩:=h;exact⟨b,A,l,c,h1.below hb h1.lt,h2.grow hb⟩
theorem NumBox.put {w:World} {D:Nat} {z z0:Int} (h0:NumBox w D z0) {b:Bool} {A:Option Addr} {l c:Nat} (h:NumAt w (.agg #[.bool b,.slice A l c]) z):NumBox ((w.setCell ⟨D,0,none⟩ (.bool b)).setCell ⟨D,1,none⟩ (.slice A l c)) D z:=by
 obtain⟨b0,A0,l0,c0,h1,-⟩:=h0;exact⟨b,A,l,c,(h1.set_ 0 _).set_ 1 _,(h.setBox h1 (by decide) 0 _).setBox (h1.set_ 0 _) (by decide) 1 _⟩
theorem fV (by_:Int) (v:Value) (l:List Int) (w:World) (hv:ct w w.heap.size v l) (hl:l.length≤8) (hx:∀x∈l,x.natAbs≤4611686018427387904) (gj:by_≠0) (ak:by_.natAbs≤4611686018427387904) :
  Calls Tryz.prog 242 #[.int .i64 by_,v] w (MakesE (Zu by_ l) w):=by
 obtain⟨A,c,rfl,kG,eH,aL⟩:=hv.open_;unfold maxLen at eH;have HX:=zh hx;have HC:=zh aL;have TM:=zh gj;have cw:=zh ak;have HR:=zh (Blk.new w 223 (zD false none 0 0 false none 0 0));have HB:=zh ((yB _ w).alloc (yA _) (.cells (zD false none 0 0 false none 0 0) 223));clear aL hv hx gj ak;go_enter Tryz.func242,Tryz.ntmps242;go_wp2_with fail;generalize w.alloc (.cells (zD false none 0 0 false none 0 0) 223)=W0 at*
 refine (DR 1 W0 (by decide) (by decide)).mono ?_;rintro e w1 ⟨ak,v1,rfl,oF⟩;obtain⟨n1,A1,l1,c1,rfl,-⟩:=oF.form;have I0:=zh ((HR.o.below ak HR.o.lt).alloc (.cells #[.bool n1,.slice A1 l1 c1] 221));have Ia:=HB.o.trans (ak.mono HB.o.size);have Tp:=zh (Ia.alloc Ia.size (.cells #[.bool n1,.slice A1 l1 c1] 221));have wJ:Y0 (NumBox (w1.alloc (.cells #[.bool n1,.slice A1 l1 c1] 221)) w1.heap.size (dB (l.take 0))):=⟨n1,A1,l1,c1,Blk.new _ _ _,oF.grow ((yB _ _).alloc (yA _) _)⟩
 have M0:Y0 (w.heap.size<w1.heap.size):=yK HR.o.lt ak.size;clear HR HB ak oF Ia;go_wp2_with fail;generalize eo:w1.heap.size=D5 at*;clear eo;go_loopw [11] (fun ix wr=>∃k:Nat,k≤l.length∧ix=.int .i64 k∧Y0 (NumBox wr D5 (dB (l.take k)))∧Y0 (Blk wr w.heap.size 223 (zD false none 0 0 false none 0 0))∧Y0 (Below w.heap.size w wr)) (fun ix _=>l.length-(intOf ix).toNat)
 case atStart=>exact⟨0,yI _,rfl,wJ,I0,Tp⟩
 clear wJ I0 Tp;obtain⟨k,hk,rfl,HN,HR,HB⟩:=hrel;have k0:(0:Int)≤(k:Int):=yE _;obtain⟨nb,nA,nl,nc,Mw,hNn⟩:=HN.o;obtain⟨q0,q1⟩:=Mw.c2;have M6:=zh Mw;have Td:=zh hNn;have HPk:=zh (xP HX.o k hk);clear Mw hNn;by_cases aK:k<l.length
 ·have k1:(k:Int)<(l.length:Int):=by omega
  obtain⟨b2,o2,rfl,aI,dR⟩:=HC.o k aK;have hx:=(HB.o.cell (p:=⟨b2,o2+k,none⟩) aI).trans (dR k aK);have HXk:=zh (HX.o l[k] (yV aK));have HP:Y0 (dB (l.take (k+1))=dB (l.take k)*l[k]):=by unfold Y0;rw[bF l k aK,mn]
  clear dR aI;generalize l[k]=x at*;go_wp2_with fail;have u0:=YL q0;have u1:=YL q1;clear hx q0 q1;refine af 4 (fun i=>if i=2 then some (gN x) else if i=3 then some (gN (dB (l.take k)*x)) else none) (by kernel_rfl) (by kernel_rfl) ?_;simp only[aO,aR,aP,aQ];refine zw 2 ?_;simp only[aO,aR,aP,aQ]
  repeat (go_big_quiet_step (fail))
  refine YE ?_;refine ae rfl rfl (fun w1 ak _=>⟨238,#[.int .i64 x],by go_simp,MakesN.g (DR x w1 (by have:=HXk.o;omega) (by have:=HXk.o;omega))⟩) ?_;rintro _ ⟨rb,rA,rl,rc,rfl⟩;simp only[Act.put,aw,av,au];refine ae rfl rfl ?_ ?_
  ·intro w1 ak UE;have h17:NumAt w1 (.agg #[.bool rb,.slice rA rl rc]) x:=UE 17 (by decide);exact zc (MakesN.g (kI _ _ _ _ 20 w1 (Td.o.grow ak) h17 (by decide) (fl HPk.o (by omega)) (xT HXk.o)))
  rintro _ ⟨sb,sA,sl,sc,rfl⟩;simp only[Act.put,aw,av,au];refine Zc ?_;intro w5 bf hF;have h18:NumAt w5 (.agg #[.bool sb,.slice sA sl sc]) (dB (l.take k)*x):=hF 18;have dJ:=zh (HB.o.trans (bf.mono HB.o.size));have ou:=zh (HR.o.below bf HR.o.lt);have vR:=M6.o.below bf M6.o.lt;have q0:=vR.cell 0;have q1:=vR.cell 1;have f0:=vR.frozen 0;have f1:=vR.frozen 1;simp only[aB,aD,aA] at q0 q1;rw[←HP.o] at h18
  have H18:=zh h18;have M7:=zh (HN.o.grow bf);clear hF u0 u1 h18 bf vR HP HN HR HB M6 Td;go_wp2_with fail;have LZ:=zh (M7.o.put H18.o);have ot:=zh ((ou.o.far (p:=⟨D5,0,none⟩) (Nat.ne_of_lt M0.o) (.bool sb)).far (p:=⟨D5,1,none⟩) (Nat.ne_of_lt M0.o) (.slice sA sl sc));have ni:=zh ((dJ.o.setCell (p:=⟨D5,0,none⟩) (YG M0.o) (.bool sb)).setCell (p:=⟨D5,1,none⟩) (YG M0.o) (.slice sA sl sc));clear q0 q1 f0 f1 H18 M7 ou dJ
  go_roundw
  case rel=>exact⟨k+1,by omega,by go_num,LZ,ot,ni⟩
  simp[intOf];omega
 obtain rfl:k=l.length:=by omega
 rw[yT] at Td HPk;go_wp2_with fail;have u0:=YL q0;have u1:=YL q1;clear q0 q1;refine af 4 (fun i=>if i=2 then some (gN by_) else if i=3 then some (gE (Zu by_ l)) else none) (by kernel_rfl) (by kernel_rfl) ?_;simp only[aO,aR,aP,aQ];refine zw 2 ?_;simp only[aO,aR,aP,aQ]
 repeat (go_big_quiet_step (fail))
 refine YE ?_;refine ae rfl rfl (fun w1 ak _=>⟨238,#[.int .i64 by_],by go_simp,MakesN.g (DR by_ w1 (by have:=cw.o;omega) (by have:=cw.o;omega))⟩) ?_;rintro _ ⟨rb,rA,rl,rc,rfl⟩;simp only[Act.put,aw,av,au];refine ae rfl rfl ?_ ?_
 ·intro w1 ak UE;have h22:NumAt w1 (.agg #[.bool rb,.slice rA rl rc]) by_:=UE 22 (by decide);exact zc (MakesE.g (ru _ _ _ _ 20 w1 (Td.o.grow ak) h22 TM.o (by decide) (fl HPk.o (by omega)) (xT cw.o)))
 rintro _ ⟨li,lk,kY,lg,lh,lj,kX,lf,rfl⟩;simp only[Act.put,aw,av,au];refine Zc ?_;intro w5 bf hF;have XI:ExactAt w5 (.agg (zD li lk kY lg lh lj kX lf)) (Zu by_ l):=hF 23;have HL:=zh XI;have eG:=zh (HB.o.trans (bf.mono HB.o.size));have bp:=zh (HR.o.below bf HR.o.lt);have q0:=bp.o.cell 0;have q1:=bp.o.cell 1;have q2:=bp.o.cell 2;have q3:=bp.o.cell 3;have f0:=bp.o.frozen 0;have f1:=bp.o.frozen 1;have f2:=bp.o.frozen 2
 have f3:=bp.o.frozen 3;simp only[aB,aD,aA] at q0 q1 q2 q3;clear hF u0 u1 XI bf HN HR HB M6 Td;go_wp2_with fail;refine YF (v:=.agg (zD li lk kY lg lh lj kX lf)) (by simp[results,Tryz.results242,go_sem,q0,q1,q2,q3]) rfl ?_;exact⟨bI eG.o (yA _) _ _ _ _,_,rfl,HL.o.stored bp.o _ _ _ _⟩
def LoadT.cells (x:LoadT):List Value:=[.int .i64 x.pos,.int .i64 x.wt]
def LoadsAt (w:World) (B:Nat) (v:Value) (l:List LoadT):Prop:=Flat w B v l.length (l.flatMap LoadT.cells)
theorem LoadsAt.below {w w':World} {B B':Nat} {v:Value} {l:List LoadT} (h:LoadsAt w B v l) (hb:Below B' w w') (hB:B≤B'):LoadsAt w' B v l:=Flat.below h hb hB
theorem LoadsAt.mono {w:World} {B B':Nat} {v:Value} {l:List LoadT} (h:LoadsAt w B v l) (hB:B≤B'):LoadsAt w B' v l:=Flat.mono h hB
theorem QC (l:List LoadT) (j i:Nat) (hj:j<l.length) (hi:i<2):(l.flatMap LoadT.cells)[j*2+i]?=l[j].cells[i]?:=by
 induction l generalizing j with
 | nil=>simp at hj
 | cons t l ih=>
  have h5:t.cells.length=2:=rfl;rw[List.flatMap_cons]
  cases j with
  | zero=>rw[List.getElem?_append_left (by rw[h5];omega)];simp
  | succ j=>
   rw[List.getElem?_append_right (by rw[h5];omega),h5]
   have:=ih j (by simpa using hj);rw[show (j+1)*2+i-2=j*2+i by omega,this];rfl
theorem LoadsAt.open_ {w:World} {B:Nat} {v:Value} {l:List LoadT} (h:LoadsAt w B v l) :
  ∃A c,v=.slice A l.length c∧l.length≤c∧c≤maxLen∧∀k (_:k<l.length),∃b off,A=some ⟨b,off,none⟩∧b<B∧∀j (hj:j<l.length),w.cell? ⟨b,off+j*2,none⟩=some (.int .i64 l[j].pos)∧w.cell? ⟨b,off+j*2+1,none⟩=some (.int .i64 l[j].wt):=by
 obtain⟨A,c,h1,h2,h3,h4⟩:=h;refine⟨A,c,h1,h2,h3,fun k hk=>?_⟩;obtain⟨b,off,e,aI,hc⟩:=h4 (by omega);refine⟨b,off,e,aI,fun j hj=>?_⟩;have f:=fun (i:Nat) (hi:i<2) u (hu:l[j].cells[i]?=some u)=>hc (j*2+i) u ((QC l j i hj hi).trans hu);have g:=fun (i:Nat) (hi:i<2) u (hu:l[j].cells[i]?=some u)=>(congrArg (fun o=>w.cell? ⟨b,o,none⟩) (Nat.add_assoc off (j*2) i)).trans (f i hi u hu);exact⟨g 0 (by omega) _ rfl,g 1 (by omega) _ rfl⟩
def BeamAt (w:World) (B:Nat) (v:Value) (b:BeamT):Prop :=
 ∃As cs Al cl,v=.agg (zC b As cs Al cl)∧ct w B (.slice As b.sup.length cs) b.sup∧LoadsAt w B (.slice Al b.loads.length cl) b.loads
theorem BeamAt.below {w w':World} {B B':Nat} {v:Value} {b:BeamT} (h:BeamAt w B v b) (hb:Below B' w w') (hB:B≤B'):BeamAt w' B v b:=by
 obtain⟨As,cs,Al,cl,h1,h2,h3⟩:=h;exact⟨As,cs,Al,cl,h1,h2.below hb hB,h3.below hb hB⟩
theorem BeamAt.mono {w:World} {B B':Nat} {v:Value} {b:BeamT} (h:BeamAt w B v b) (hB:B≤B'):BeamAt w B' v b:=by
 obtain⟨As,cs,Al,cl,h1,h2,h3⟩:=h;exact⟨As,cs,Al,cl,h1,h2.mono hB,h3.mono hB⟩
theorem BeamAt.grow {w w':World} {v:Value} {b:BeamT} (h:BeamAt w w.heap.size v b) (hb:Below w.heap.size w w'):BeamAt w' w'.heap.size v b:=(h.below hb (yA _)).mono hb.size
theorem im (w:World) (T:TypeId) (l:List Int) (hl:l.length≤100):ct (w.alloc (.cells (l.map (Value.int .i64)).toArray T)) (w.alloc (.cells (l.map (Value.int .i64)).toArray T)).heap.size (.slice (some ⟨w.heap.size,0,none⟩) l.length l.length) l:=by
 refine⟨some ⟨w.heap.size,0,none⟩,l.length,rfl,yA _,by unfold maxLen;omega,fun _=>⟨w.heap.size,0,rfl,by simp,fun j u hu=>?_⟩⟩;rw[yS,(Blk.new w T _).cell];simpa using hu
def gI (l:List Int):GPost:=⟨fun v=>∃g,v=.slice (some ⟨g,0,none⟩) l.length l.length,fun v w=>ct w w.heap.size v l,⟨_,0,rfl⟩,fun _ _ _ hb h=>(RowAt.below h hb (yA _)).mono hb.size,false⟩
theorem fm {P:Program} {o:Oper} {a:Act} {w:World} {T:TypeId} {l:List Int} (hl:l.length≤100) (h:(execOp a.eval o).run P w=.ok (.value (.slice (some ⟨w.heap.size,0,none⟩) l.length l.length)) (w.alloc (.cells (l.map (Value.int .i64)).toArray T))):jv P o a (gI l) w :=
 ⟨_,_,h,(yB _ _).alloc (yA _) _,⟨_,rfl⟩,im w T l hl,fun h=>by cases h⟩
def ExBox (w:World) (D:Nat) (q:Rat):Prop:=∃b1 A1 l1 c1 b2 A2 l2 c2,Blk w D 223 #[.bool b1,.slice A1 l1 c1,.bool b2,.slice A2 l2 c2]∧ExactAt w (.agg #[.bool b1,.slice A1 l1 c1,.bool b2,.slice A2 l2 c2]) q
theorem ExBox.grow {w w':World} {D:Nat} {q:Rat} (h:ExBox w D q) (hb:Below w.heap.size w w'):ExBox w' D q:=by
 obtain⟨b1,A1,l1,c1,b2,A2,l2,c2,h1,h2⟩:=h;exact⟨b1,A1,l1,c1,b2,A2,l2,c2,h1.below hb h1.lt,h2.grow hb⟩
theorem ExBox.new {w:World} {q:Rat} {b1:Bool} {A1:Option Addr} {l1 c1:Nat} {b2:Bool} {A2:Option Addr} {l2 c2:Nat} (h:ExactAt w (.agg (zD b1 A1 l1 c1 b2 A2 l2 c2)) q):ExBox (w.alloc (.cells (zD b1 A1 l1 c1 b2 A2 l2 c2) 223)) w.heap.size q :=
 ⟨b1,A1,l1,c1,b2,A2,l2,c2,Blk.new _ _ _,h.grow ((yB _ _).alloc (yA _) _)⟩
theorem ExBox.put {w:World} {D:Nat} {q:Rat} {cs:Array Value} (h0:Blk w D 223 cs) (h4:cs.size=4) {b1:Bool} {A1:Option Addr} {l1 c1:Nat} {b2:Bool} {A2:Option Addr} {l2 c2:Nat} (h:ExactAt w (.agg (zD b1 A1 l1 c1 b2 A2 l2 c2)) q) :
  ExBox ((((w.setCell ⟨D,0,none⟩ (.bool b1)).setCell ⟨D,1,none⟩ (.slice A1 l1 c1)).setCell ⟨D,2,none⟩ (.bool b2)).setCell ⟨D,3,none⟩ (.slice A2 l2 c2)) D q:=by
 refine⟨b1,A1,l1,c1,b2,A2,l2,c2,?_,h.stored h0 _ _ _ _⟩;have h5:=(((h0.set_ 0 (.bool b1)).set_ 1 (.slice A1 l1 c1)).set_ 2 (.bool b2)).set_ 3 (.slice A2 l2 c2)
 match cs,h4,h5 with
 | ⟨[x0,x1,x2,x3]⟩,_,h5=>exact h5
theorem Blk.far4 {w:World} {g D:Nat} {t:TypeId} {cs:Array Value} (h:Blk w g t cs) (hg:g≠D) (x0 x1 x2 x3:Value):Blk ((((w.setCell ⟨D,0,none⟩ x0).setCell ⟨D,1,none⟩ x1).setCell ⟨D,2,none⟩ x2).setCell ⟨D,3,none⟩ x3) g t cs :=
 (((h.far (p:=⟨D,0,none⟩) hg x0).far (p:=⟨D,1,none⟩) hg x1).far (p:=⟨D,2,none⟩) hg x2).far (p:=⟨D,3,none⟩) hg x3
structure SumSt (w wr:World) (bx:Array Value) (Ds:Nat) (q:Rat):Prop where
 bm:Blk wr w.heap.size 117 bx
 res:Blk wr (w.heap.size+1) 223 (zD false none 0 0 false none 0 0)
 sum:ExBox wr Ds q
 bel:Below w.heap.size w wr
 far:w.heap.size+1<Ds
theorem SumSt.grow {w wr w':World} {bx:Array Value} {Ds:Nat} {q:Rat} (h:SumSt w wr bx Ds q) (hb:Below wr.heap.size wr w'):SumSt w w' bx Ds q :=
 ⟨h.bm.below hb h.bm.lt,h.res.below hb h.res.lt,h.sum.grow hb,h.bel.trans (hb.mono h.bel.size),h.far⟩
theorem SumSt.alloc {w wr:World} {bx:Array Value} {Ds:Nat} {q:Rat} (h:SumSt w wr bx Ds q) (o:Obj):SumSt w (wr.alloc o) bx Ds q:=h.grow ((yB _ _).alloc (yA _) _)
theorem SumSt.put {w wr:World} {bx:Array Value} {Ds:Nat} {q q':Rat} (h:SumSt w wr bx Ds q) {b1:Bool} {A1:Option Addr} {l1 c1:Nat} {b2:Bool} {A2:Option Addr} {l2 c2:Nat} (hE:ExactAt wr (.agg (zD b1 A1 l1 c1 b2 A2 l2 c2)) q') :
  SumSt w ((((wr.setCell ⟨Ds,0,none⟩ (.bool b1)).setCell ⟨Ds,1,none⟩ (.slice A1 l1 c1)).setCell ⟨Ds,2,none⟩ (.bool b2)).setCell ⟨Ds,3,none⟩ (.slice A2 l2 c2)) bx Ds q':=by
 have hf:=h.far;obtain⟨_,_,_,_,_,_,_,_,h1,-⟩:=h.sum;exact⟨h.bm.far4 (by omega) _ _ _ _,h.res.far4 (by omega) _ _ _ _,ExBox.put h1 rfl hE,bI h.bel (by omega) _ _ _ _,h.far⟩
theorem SumSt.start {w w1:World} {bx:Array Value} {q:Rat} (hb:Below (w.heap.size + 2) ((w.alloc (.cells bx 117)).alloc (.cells (zD false none 0 0 false none 0 0) 223)) w1)
  {b1:Bool} {A1:Option Addr} {l1 c1:Nat} {b2:Bool} {A2:Option Addr} {l2 c2:Nat} (hE:ExactAt w1 (.agg (zD b1 A1 l1 c1 b2 A2 l2 c2)) q) :
  SumSt w (w1.alloc (.cells (zD b1 A1 l1 c1 b2 A2 l2 c2) 223)) bx w1.heap.size q:=by
 have h1:Blk ((w.alloc (.cells bx 117)).alloc (.cells (zD false none 0 0 false none 0 0) 223)) (w.heap.size+1) 223 (zD false none 0 0 false none 0 0):=by
  have:=Blk.new (w.alloc (.cells bx 117)) 223 (zD false none 0 0 false none 0 0);simpa using this
 have h2:=(Blk.new w 117 bx).alloc (.cells (zD false none 0 0 false none 0 0) 223);have h3:Below w.heap.size w ((w.alloc (.cells bx 117)).alloc (.cells (zD false none 0 0 false none 0 0) 223)):=((yB _ _).alloc (yA _) _).alloc (by simp) _;have h4:Below w.heap.size w w1:=h3.trans (hb.mono (by omega));have fO:w.heap.size+2≤w1.heap.size:=by have:=hb.size;simpa using this
 exact⟨(h2.below hb (by omega)).alloc _,(h1.below hb (by omega)).alloc _,ExBox.new hE,h4.alloc h4.size _,by omega⟩
theorem EW {x y:Int} (h1:x.natAbs≤4611686018427387904) (h2:y.natAbs≤4611686018427387904):∀z∈[x,y],z.natAbs≤4611686018427387904:=fun z hz=>by
 simp at hz;rcases hz with rfl|rfl
 ·exact h1
 exact h2
theorem MY {x y z:Int} (h1:x.natAbs≤4611686018427387904) (h2:y.natAbs≤4611686018427387904) (h3:z.natAbs≤4611686018427387904):∀u∈[x,y,z],u.natAbs≤4611686018427387904:=fun u hu=>by
 simp at hu;rcases hu with rfl|rfl|rfl
 ·exact h1
 ·exact h2
 exact h3
theorem S0 (v:Value) (b:BeamT) (w:World) (hv:BeamAt w w.heap.size v b) (hb:BeamOk b):Calls Tryz.prog 234 #[v] w (MakesE (bG b) w):=by
 obtain⟨As,cs,Al,cl,rfl,hS,hL⟩:=hv;obtain⟨_,_,e,_,oR,td⟩:=hS.open_;injection e with e1 _ e2;subst e1 e2;obtain⟨_,_,e,_,dR,nQ⟩:=hL.open_;injection e with e1 _ e2;subst e1 e2;have h1:=hb.sup1;have h2:=hb.loads1;have h3:=hb.even;have h4:=hb.sup 0 h1.1;have h5:=hb.len;unfold maxLen at oR dR;have Rz:=td 0 h1.1;obtain⟨b1,o1,rfl,ak,Rz⟩:=Rz;have Rz:=Rz 0 h1.1;have e0:b.sup[0]'h1.1=ai b 0:=by unfold ai;rw[List.getD_eq_getElem?_getD,List.getElem?_eq_getElem h1.1];rfl
 rw[e0,Nat.add_zero] at Rz;have uw:=zh nQ;have Hb:=zh hb;have s0:(0:Int)<(b.sup.length:Int):=by omega
 generalize hsa:ai b 0=a at*;have HA:=zh hsa;obtain⟨h41,h42⟩:=h4;obtain⟨TD,h32⟩:=h3;obtain⟨XH,Vb⟩:=h5;clear nQ td hb hS hL e0 hsa h1;have Rz:=Rz;go_enter Tryz.func234,Tryz.ntmps234;go_wp2_with fail;have hI:=im ((w.alloc (.cells (zC b (some ⟨b1,o1,none⟩) cs Al cl) 117)).alloc (.cells (zD false none 0 0 false none 0 0) 223)) 3 [b.even,a,a] (yU rfl);have fO:((w.alloc (.cells (zC b (some ⟨b1,o1,none⟩) cs Al cl) 117)).alloc (.cells (zD false none 0 0 false none 0 0) 223)).heap.size=w.heap.size+1+1:=by simp
 rw[fO] at hI;refine (fV 2000 _ [b.even,a,a] _ hI (yU rfl) (fun x hx=>?_) (by decide) (by decide)).mono ?_
 ·simp at hx;omega
 rintro e w1 ⟨lE,v1,rfl,kh⟩;obtain⟨m1,B1,k1,d1,m2,B2,k2,d2,rfl,-,-⟩:=kh.form;have qV:=((yB _ ((w.alloc (.cells (zC b (some ⟨b1,o1,none⟩) cs Al cl) 117)).alloc (.cells (zD false none 0 0 false none 0 0) 223))).alloc (yA _) (.cells #[.int .i64 b.even,.int .i64 a,.int .i64 a] 3)).trans (lE.mono (by simp));rw[fO] at qV;have aW:=zh (SumSt.start qV kh);have q3:=aW.o.bm.cell 3;simp only[aB,aD,aA] at q3;have HH:Y0 (iT b 0=Zu 2000 [b.even,a,a]):=by unfold Y0 iT;rw[HA.o];rfl
 clear hI fO lE kh qV;go_wp2_with fail;generalize w1.heap.size=Ds at*;rw[←HH.o] at aW;clear HH q3;go_loopw [20] (fun ix wr=>∃k:Nat,k≤b.loads.length∧ix=.int .i64 k∧Y0 (SumSt w wr (zC b (some ⟨b1,o1,none⟩) cs Al cl) Ds (iT b k))) (fun ix _=>b.loads.length-(intOf ix).toNat)
 case atStart=>exact⟨0,yI _,rfl,aW⟩
 clear aW;obtain⟨k,hk,rfl,aW⟩:=hrel;have k0:(0:Int)≤(k:Int):=yE _;by_cases aK:k<b.loads.length
 ·have k1:(k:Int)<(b.loads.length:Int):=by omega
  obtain⟨b2,o2,rfl,aI,dR⟩:=uw.o k aK;obtain⟨cG,dc⟩:=dR k aK;have cG:=(aW.o.bel.cell (p:=⟨b2,o2+k*2,none⟩) aI).trans cG;have dc:=(aW.o.bel.cell (p:=⟨b2,o2+k*2+1,none⟩) aI).trans dc;obtain⟨p1,p2,p3,p4⟩:=Hb.o.loads _ (yV aK);have gZ:=zh (Zl (b:=b) (f:=qW (ai b 0)) (s:=Zu 2000 [b.even,ai b 0,ai b 0]) aK);have Mc:=zh (s7 Hb.o (YG aK));have ey:=zh (aW.o.alloc (.cells #[.int .i64 b.loads[k].pos,.int .i64 b.loads[k].wt] 115))
  clear dR;generalize b.loads[k]=x at*;obtain⟨pos,wt⟩:=x;simp only at cG dc p1 p2 p3 p4 ey;by_cases pY:pos<a
  ·have hd:decide (pos<a)=true:=yD pY;have HT:Y0 (iT b (k+1)=iT b k+Zu 1 [wt,a-pos]):=by
    unfold Y0 iT;rw[gZ.o];unfold qW;rw[HA.o];simp only[if_pos pY]
   have xy:Y0 (cg (Zu 1 [wt,a-pos]) 5):=tj (by decide) (by decide) (by omega) (by omega);clear gZ;go_wp2_with fail;obtain⟨li,lk,kY,lg,lh,lj,kX,lf,hB,hE⟩:=ey.o.sum;obtain⟨y0,y1,y2,y3⟩:=hB.c4;have z:=Blk.new wr 115 #[.int .i64 pos,.int .i64 wt];obtain⟨z0,z1⟩:=z.c2;have HE:=zh hE;have jE:=zh ey.o.bel;have mz:(a-pos).natAbs≤4611686018427387904:=by omega
   have lQ:wt.natAbs≤4611686018427387904:=by omega
   clear hB hE z cG dc;generalize wr.alloc (.cells #[.int .i64 pos,.int .i64 wt] 115)=W1 at*;have u0:=YL y0;have u1:=YL y1;have u2:=YL y2;have u3:=YL y3;have u4:=YL z0;have u5:=YL z1;clear y0 y1 y2 y3 z0 z1;refine af 10 (fun i=>if i=7 then some (gI [wt,a-pos]) else if i=8 then some (gE (Zu 1 [wt,a-pos])) else if i=9 then some (gE (iT b k+Zu 1 [wt,a-pos])) else none) (by kernel_rfl) (by kernel_rfl) ?_
   simp only[aO,aR,aP,aQ];refine zw 7 ?_;simp only[aO,aR,aP,aQ]
   repeat (go_big_quiet_step (fail))
   refine YE ?_;refine aX rfl rfl (fun w1 ak _=>fm (T:=3) (l:=[wt,a-pos]) (yU rfl) (by go_simp)) ?_;rintro _ ⟨g35,rfl⟩;simp only[Act.put,aw,av,au];refine ae rfl rfl ?_ ?_
   ·intro w1 ak hk;have hb:=(jE.o).trans (ak.mono (jE.o).size);have h35:ct w1 w1.heap.size (.slice (some ⟨g35,0,none⟩) 2 2) [wt,a-pos]:=hk 35 (by decide);have hC:=MakesE.g (fV 1 _ [wt,a-pos] w1 h35 (yU rfl) (EW lQ mz) (by decide) (by decide));exact zc hC
   rintro _ ⟨vh,vj,vd,vf,vg,vi,uZ,ve,rfl⟩;simp only[Act.put,aw,av,au];refine ae rfl rfl ?_ ?_
   ·intro w1 ak hk;have hb:=(jE.o).trans (ak.mono (jE.o).size);have h36:ExactAt w1 (.agg (zD vh vj vd vf vg vi uZ ve)) (Zu 1 [wt,a-pos]):=hk 36 (by decide);have hC:=MakesE.g (fA _ _ _ _ 245 5 w1 (HE.o.grow ak) h36 Mc.o xy.o (by decide));exact zc hC
   rintro _ ⟨uV,uY,uQ,uT,uU,uX,uP,uR,rfl⟩;simp only[Act.put,aw,av,au];refine Zc ?_;intro w8 aT hF;have R9:ExactAt w8 (.agg (zD uV uY uQ uT uU uX uP uR)) (iT b k+Zu 1 [wt,a-pos]):=hF 37;have HL:=zh R9;have dv:=zh (ey.o.grow aT);obtain⟨_,_,_,_,_,_,_,_,h1,-⟩:=dv.o.sum;have q0:=h1.cell 0;have q1:=h1.cell 1;have q2:=h1.cell 2;have q3:=h1.cell 3;have f0:=h1.frozen 0;have f1:=h1.frozen 1;have f2:=h1.frozen 2
   have f3:=h1.frozen 3;simp only[aB,aD,aA] at q0 q1 q2 q3;rw[←HT.o] at HL;clear hF u0 u1 u2 u3 u4 u5 aT R9 h1 HE jE ey aW;go_wp2_with fail;have mQ:=zh (dv.o.put HL.o);clear q0 q1 q2 q3 f0 f1 f2 f3 HL dv;go_roundw
   case rel=>exact⟨k+1,by omega,by go_num,mQ⟩
   simp[intOf];omega
  have hd:decide (pos<a)=false:=yC pY;have HT:Y0 (iT b (k+1)=iT b k):=by
   unfold Y0 iT;rw[gZ.o];unfold qW;rw[HA.o];simp only[if_neg pY]
  rw[←HT.o] at ey;clear gZ aW;go_wp2_with fail;go_roundw
  case rel=>exact⟨k+1,by omega,by go_num,ey⟩
  simp[intOf];omega
 obtain rfl:k=b.loads.length:=by omega
 obtain⟨li,lk,kY,lg,lh,lj,kX,lf,hB,hE⟩:=aW.o.sum;obtain⟨y0,y1,y2,y3⟩:=hB.c4;have HE:=zh hE;have jE:=zh aW.o.bel;have Mc:=zh (s7 Hb.o (yA _));have ey:=aW;clear hB hE aW;go_wp2_with fail;have u0:=YL y0;have u1:=YL y1;have u2:=YL y2;have u3:=YL y3;clear y0 y1 y2 y3;refine af 3 (fun i=>if i=0 then some (gE (((0:Int):Rat))) else if i=2 then some (gE (bG b)) else none) (by kernel_rfl) (by kernel_rfl) ?_
 simp only[aO,aR,aP,aQ];refine ae rfl rfl ?_ ?_
 ·intro w1 ak hk;have hb:=(jE.o).trans (ak.mono (jE.o).size);have hC:=MakesE.g (fU 0 w1 (by decide) (by decide));exact zc hC
 rintro _ ⟨qvL,qvN,qvH,qvJ,qvK,qvM,qvG,qvI,rfl⟩;simp only[Act.put,aw,av,au];refine zw 1 ?_;simp only[aO,aR,aP,aQ]
 repeat (go_big_quiet_step (fail))
 refine YE ?_;refine ae rfl rfl ?_ ?_
 ·intro w1 ak hk;have hb:=(jE.o).trans (ak.mono (jE.o).size);have h39:ExactAt w1 (.agg (zD qvL qvN qvH qvJ qvK qvM qvG qvI)) (((0:Int):Rat)):=hk 39 (by decide);have hC:=MakesE.g (jg _ _ _ _ 1 245 w1 h39 (HE.o.grow ak) (bL (by decide) (yA _)) Mc.o (by decide));exact zc hC
 rintro _ ⟨WM,WO,WI,WK,WL,WN,WH,WJ,rfl⟩;simp only[Act.put,aw,av,au];refine Zc ?_;intro w8 aT hF;have h41:ExactAt w8 (.agg (zD WM WO WI WK WL WN WH WJ)) (bG b):=hF 41;have HL:=zh h41;have bp:=zh (ey.o.res.below aT ey.o.res.lt);have eG:=zh (jE.o.trans (aT.mono jE.o.size));have q0:=bp.o.cell 0;have q1:=bp.o.cell 1;have q2:=bp.o.cell 2;have q3:=bp.o.cell 3;have f0:=bp.o.frozen 0;have f1:=bp.o.frozen 1
 have f2:=bp.o.frozen 2;have f3:=bp.o.frozen 3;simp only[aB,aD,aA] at q0 q1 q2 q3;clear hF u0 u1 u2 u3 h41 aT HE jE ey;go_wp2_with fail;refine YF (v:=.agg (zD WM WO WI WK WL WN WH WJ)) (by simp[results,Tryz.results234,go_sem,q0,q1,q2,q3]) rfl ?_;exact⟨bI eG.o (by omega) _ _ _ _,_,rfl,HL.o.stored bp.o _ _ _ _⟩
