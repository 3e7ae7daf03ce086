/- Lemmas. -/
import Derived.Deep.Cut
import Derived.Test.YtfhmbechennkbaaGreatDoorD1
namespace Go.Proofs.YtfhmbechennkbaaGreatDoor
set_option maxRecDepth 100000
set_option maxHeartbeats 40000000
open Go.RowKit Go.Shelf
theorem AU {w:World} {B:Nat} {A:Option Addr} {c:Nat} {l:List Int} (h:bO w B (.slice A l.length c) l):l.length≤c∧c≤maxLen∧∀ k (_:k<l.length),∃ b off,A=some ⟨b,off,none⟩∧b<B∧∀ j (hj:j<l.length),w.cell? ⟨b,off+j,none⟩=some (.int .i64 l[j]):=by
 obtain⟨A',c',e,h2,h3,h4⟩:=h
 injection e with e1 _ e2
 subst e1 e2
 refine⟨h2,h3,fun k hk=>?_⟩
 obtain⟨b,off,e,hl,hc⟩:=h4 (by omega)
 exact⟨b,off,e,hl,fun j hj=>hc j _ (by simp[hj])⟩
theorem pB (v1 v2:Value) (s t:SetT) (w:World) (h1:SetAt w w.heap.size v1 s) (h2:SetAt w w.heap.size v2 t) :
  Calls Tryz.prog 30 #[v1,v2] w fun e w'=>e = .returned (.bool (decide (s=t)))∧Below w.heap.size w w':=by
 obtain⟨Y7,Qd,Y9,X9,YO,Qi,rfl,PK,hI1,QL⟩:=h1
 obtain⟨Y6,Qc,Y8,X8,YN,Qh,rfl,PI,hI2,nC⟩:=h2
 have eK:=zh ((Blk.new w 26 (zA s Y7 Qd Y9 X9 YO Qi)).alloc (.cells (zA t Y6 Qc Y8 X8 YN Qh) 26))
 have im:=Blk.new (w.alloc (.cells (zA s Y7 Qd Y9 X9 YO Qi) 26)) 26 (zA t Y6 Qc Y8 X8 YN Qh)
 rw[yZ] at im
 have cF:=zh im
 have hb:=((yB _ w).alloc (yA _) (.cells (zA s Y7 Qd Y9 X9 YO Qi) 26)).alloc (by simp) (.cells (zA t Y6 Qc Y8 X8 YN Qh) 26)
 have HB:=zh hb
 have PK:=RowAt.below PK hb (yA _)
 have PI:=RowAt.below PI hb (yA _)
 have hI1:=hI1.below hb (yA _)
 have hI2:=hI2.below hb (yA _)
 have QL:=QL.below hb (yA _)
 have nC:=nC.below hb (yA _)
 obtain⟨ll1,lm1,pL⟩:=AU PK
 obtain⟨ll2,lm2,rW⟩:=AU PI
 obtain⟨_,_,e,li1,im1,N9⟩:=hI1.open_
 injection e with e1 _ e2
 subst e1 e2
 obtain⟨_,_,e,lb1,bm1,qjF⟩:=QL.open_
 injection e with e1 _ e2
 subst e1 e2
 obtain⟨_,_,e,li2,im2,Wu⟩:=hI2.open_
 injection e with e1 _ e2
 subst e1 e2
 obtain⟨_,_,e,lb2,bm2,qjE⟩:=nC.open_
 injection e with e1 _ e2
 subst e1 e2
 have pg:=zh pL
 have pf:=zh rW
 have pj:=zh N9
 have pi:=zh Wu
 have pu:=zh qjF
 have pq:=zh qjE
 unfold maxLen at lm1 lm2 im1 im2 bm1 bm2
 have gy:Y0 (s≠t→decide (s=t)=false):=fun h=>yC h
 have pR:Y0 (s.name=t.name∧s.depth=t.depth∧s.low=t.low∧s.high=t.high∧s.len=t.len∧s.pipe=t.pipe∧s.arbor=t.arbor∧s.purch=t.purch∧s.most=t.most∧s.brake=t.brake∧s.lines=t.lines∧s.items=t.items∧s.bricks=t.bricks→decide (s=t)=true):=by
  rintro⟨e0,e1,e2,e3,e4,e5,e6,e7,e8,e9,e10,e11,e12⟩
  rw[yO]
  cases s;cases t
  simp only at e0 e1 e2 e3 e4 e5 e6 e7 e8 e9 e10 e11 e12
  subst e0 e1 e2 e3 e4 e5 e6 e7 e8 e9 e10 e11 e12
  rfl
 clear PK PI hI1 hI2 QL nC im hb pL rW N9 Wu qjF qjE
 unfold aL at *
 go_enter Tryz.func30,Tryz.ntmps30
 go_upto_region 1 with fail
 generalize (Value.agg (zA s Y7 Qd Y9 X9 YO Qi))=V1
 generalize (Value.agg (zA t Y6 Qc Y8 X8 YN Qh))=V2
 generalize ((w.alloc (.cells (zA s Y7 Qd Y9 X9 YO Qi) 26)).alloc (.cells (zA t Y6 Qc Y8 X8 YN Qh) 26))=W1 at *
 have x0:=eK.o.cell 0;have x1:=eK.o.cell 1;have x2:=eK.o.cell 2;have x3:=eK.o.cell 3;have x4:=eK.o.cell 4;have x5:=eK.o.cell 5;have x6:=eK.o.cell 6;have x7:=eK.o.cell 7;have x8:=eK.o.cell 8;have x9:=eK.o.cell 9;have uO:=eK.o.cell 10;have lQ:=eK.o.cell 11;have nk:=eK.o.cell 12;simp only[aP,aQ,aO] at x0 x1 x2 x3 x4 x5 x6 x7 x8 x9 uO lQ nk
 have y0:=cF.o.cell 0;have y1:=cF.o.cell 1;have y2:=cF.o.cell 2;have y3:=cF.o.cell 3;have y4:=cF.o.cell 4;have y5:=cF.o.cell 5;have y6:=cF.o.cell 6;have y7:=cF.o.cell 7;have y8:=cF.o.cell 8;have y9:=cF.o.cell 9;have lM:=cF.o.cell 10;have iY:=cF.o.cell 11;have iG:=cF.o.cell 12;simp only[aP,aQ,aO] at y0 y1 y2 y3 y4 y5 y6 y7 y8 y9 lM iY iG
 by_cases n0:s.name=t.name
 rotate_left
 ·have Wb:(s.name.toList==t.name.toList)=false:=by rw[dc];exact yC n0
  have HN:=zh (gy.o fun e=>n0 (by rw[e]))
  clear gy pR pg pf pj pi pu pq n0
  clear x1 x2 x3 x4 x6 x7 x8 x9 uO x5 lQ nk y1 y2 y3 y4 y6 y7 y8 y9 lM y5 iY iG
  go_wp2_with fail
  go_ret
  exact⟨Ze HN.o.symm,HB.o⟩
 have Wb:(s.name.toList==t.name.toList)=true:=by rw[dc];exact yD n0
 by_cases n1:s.depth=t.depth
 rotate_left
 ·have IR:(s.depth==t.depth)=false:=beq_eq_false_iff_ne.2 n1
  have hu1:(s.depth != t.depth)=true:=bne_iff_ne.2 n1
  have HN:=zh (gy.o fun e=>n1 (by rw[e]))
  clear gy pR pg pf pj pi pu pq n0 n1
  clear x2 x3 x4 x6 x7 x8 x9 uO x5 lQ nk y2 y3 y4 y6 y7 y8 y9 lM y5 iY iG
  go_wp2_with fail
  go_ret
  exact⟨Ze HN.o.symm,HB.o⟩
 have IR:(s.depth==t.depth)=true:=beq_iff_eq.2 n1
 have hu1:(s.depth != t.depth)=false:=by rw[n1];exact bne_self_eq_false _
 by_cases n2:s.low=t.low
 rotate_left
 ·have IQ:(s.low==t.low)=false:=beq_eq_false_iff_ne.2 n2
  have N3:(s.low != t.low)=true:=bne_iff_ne.2 n2
  have HN:=zh (gy.o fun e=>n2 (by rw[e]))
  clear gy pR pg pf pj pi pu pq n0 n1 n2
  clear x3 x4 x6 x7 x8 x9 uO x5 lQ nk y3 y4 y6 y7 y8 y9 lM y5 iY iG
  go_wp2_with fail
  go_ret
  exact⟨Ze HN.o.symm,HB.o⟩
 have IQ:(s.low==t.low)=true:=beq_iff_eq.2 n2
 have N3:(s.low != t.low)=false:=by rw[n2];exact bne_self_eq_false _
 by_cases n3:s.high=t.high
 rotate_left
 ·have Wa:(s.high==t.high)=false:=beq_eq_false_iff_ne.2 n3
  have hu3:(s.high != t.high)=true:=bne_iff_ne.2 n3
  have HN:=zh (gy.o fun e=>n3 (by rw[e]))
  clear gy pR pg pf pj pi pu pq n0 n1 n2 n3
  clear x4 x6 x7 x8 x9 uO x5 lQ nk y4 y6 y7 y8 y9 lM y5 iY iG
  go_wp2_with fail
  go_ret
  exact⟨Ze HN.o.symm,HB.o⟩
 have Wa:(s.high==t.high)=true:=beq_iff_eq.2 n3
 have hu3:(s.high != t.high)=false:=by rw[n3];exact bne_self_eq_false _
 by_cases n4:s.len=t.len
 rotate_left
 ·have ht4:(s.len==t.len)=false:=beq_eq_false_iff_ne.2 n4
  have hu4:(s.len != t.len)=true:=bne_iff_ne.2 n4
  have HN:=zh (gy.o fun e=>n4 (by rw[e]))
  clear gy pR pg pf pj pi pu pq n0 n1 n2 n3 n4
  clear x6 x7 x8 x9 uO x5 lQ nk y6 y7 y8 y9 lM y5 iY iG
  go_wp2_with fail
  go_ret
  exact⟨Ze HN.o.symm,HB.o⟩
 have ht4:(s.len==t.len)=true:=beq_iff_eq.2 n4
 have hu4:(s.len != t.len)=false:=by rw[n4];exact bne_self_eq_false _
 by_cases n5:s.pipe=t.pipe
 rotate_left
 ·have ht5:(s.pipe==t.pipe)=false:=beq_eq_false_iff_ne.2 n5
  have hu5:(s.pipe != t.pipe)=true:=bne_iff_ne.2 n5
  have HN:=zh (gy.o fun e=>n5 (by rw[e]))
  clear gy pR pg pf pj pi pu pq n0 n1 n2 n3 n4 n5
  clear x7 x8 x9 uO x5 lQ nk y7 y8 y9 lM y5 iY iG
  go_wp2_with fail
  go_ret
  exact⟨Ze HN.o.symm,HB.o⟩
 have ht5:(s.pipe==t.pipe)=true:=beq_iff_eq.2 n5
 have hu5:(s.pipe != t.pipe)=false:=by rw[n5];exact bne_self_eq_false _
 by_cases n6:s.arbor=t.arbor
 rotate_left
 ·have ht6:(s.arbor==t.arbor)=false:=beq_eq_false_iff_ne.2 n6
  have hu6:(s.arbor != t.arbor)=true:=bne_iff_ne.2 n6
  have HN:=zh (gy.o fun e=>n6 (by rw[e]))
  clear gy pR pg pf pj pi pu pq n0 n1 n2 n3 n4 n5 n6
  clear x8 x9 uO x5 lQ nk y8 y9 lM y5 iY iG
  go_wp2_with fail
  go_ret
  exact⟨Ze HN.o.symm,HB.o⟩
 have ht6:(s.arbor==t.arbor)=true:=beq_iff_eq.2 n6
 have hu6:(s.arbor != t.arbor)=false:=by rw[n6];exact bne_self_eq_false _
 by_cases n7:s.purch=t.purch
 rotate_left
 ·have ht7:(s.purch==t.purch)=false:=beq_eq_false_iff_ne.2 n7
  have hu7:(s.purch != t.purch)=true:=bne_iff_ne.2 n7
  have HN:=zh (gy.o fun e=>n7 (by rw[e]))
  clear gy pR pg pf pj pi pu pq n0 n1 n2 n3 n4 n5 n6 n7
  clear x9 uO x5 lQ nk y9 lM y5 iY iG
  go_wp2_with fail
  go_ret
  exact⟨Ze HN.o.symm,HB.o⟩
 have ht7:(s.purch==t.purch)=true:=beq_iff_eq.2 n7
 have hu7:(s.purch != t.purch)=false:=by rw[n7];exact bne_self_eq_false _
 by_cases n8:s.most=t.most
 rotate_left
 ·have ht8:(s.most==t.most)=false:=beq_eq_false_iff_ne.2 n8
  have hu8:(s.most != t.most)=true:=bne_iff_ne.2 n8
  have HN:=zh (gy.o fun e=>n8 (by rw[e]))
  clear gy pR pg pf pj pi pu pq n0 n1 n2 n3 n4 n5 n6 n7 n8
  clear uO x5 lQ nk lM y5 iY iG
  go_wp2_with fail
  go_ret
  exact⟨Ze HN.o.symm,HB.o⟩
 have ht8:(s.most==t.most)=true:=beq_iff_eq.2 n8
 have hu8:(s.most != t.most)=false:=by rw[n8];exact bne_self_eq_false _
 by_cases n9:s.brake=t.brake
 rotate_left
 ·have ht9:(s.brake==t.brake)=false:=beq_eq_false_iff_ne.2 n9
  have hu9:(s.brake != t.brake)=true:=bne_iff_ne.2 n9
  have HN:=zh (gy.o fun e=>n9 (by rw[e]))
  clear gy pR pg pf pj pi pu pq n0 n1 n2 n3 n4 n5 n6 n7 n8 n9
  clear x5 lQ nk y5 iY iG
  go_wp2_with fail
  go_ret
  exact⟨Ze HN.o.symm,HB.o⟩
 have ht9:(s.brake==t.brake)=true:=beq_iff_eq.2 n9
 have hu9:(s.brake != t.brake)=false:=by rw[n9];exact bne_self_eq_false _
 have Yr:Y0 (s.name=t.name∧s.depth=t.depth∧s.low=t.low∧s.high=t.high∧s.len=t.len∧s.pipe=t.pipe∧s.arbor=t.arbor∧s.purch=t.purch∧s.most=t.most∧s.brake=t.brake):=⟨n0,n1,n2,n3,n4,n5,n6,n7,n8,n9⟩
 clear n0 n1 n2 n3 n4 n5 n6 n7 n8 n9
 go_upto_region 3 with fail
 clear x0 x1 x2 x3 x4 x6 x7 x8 x9 uO y0 y1 y2 y3 y4 y6 y7 y8 y9 lM Wb IR IQ Wa ht4 ht5 ht6 ht7 ht8 ht9 hu1 N3 hu3 hu4 hu5 hu6 hu7 hu8 hu9
 by_cases g0:s.lines.length=t.lines.length
 rotate_left
 ·have Za:((s.lines.length:Int) != t.lines.length)=true:=by simp;omega
  have HN:=zh (gy.o fun e=>g0 (by rw[e]))
  clear gy pR pg pf pj pi pu pq Yr
  go_wp2_with fail
  go_ret
  exact⟨Ze HN.o.symm,HB.o⟩
 have Za:((s.lines.length:Int) != t.lines.length)=false:=by simp[g0]
 by_cases g1:s.items.length=t.items.length
 rotate_left
 ·have Bm:((s.items.length:Int) != t.items.length)=true:=by simp;omega
  have HN:=zh (gy.o fun e=>g1 (by rw[e]))
  clear gy pR pg pf pj pi pu pq Yr
  go_wp2_with fail
  go_ret
  exact⟨Ze HN.o.symm,HB.o⟩
 have Bm:((s.items.length:Int) != t.items.length)=false:=by simp[g1]
 by_cases g2:s.bricks.length=t.bricks.length
 rotate_left
 ·have hg2:((s.bricks.length:Int) != t.bricks.length)=true:=by simp;omega
  have HN:=zh (gy.o fun e=>g2 (by rw[e]))
  clear gy pR pg pf pj pi pu pq Yr
  go_wp2_with fail
  go_ret
  exact⟨Ze HN.o.symm,HB.o⟩
 have hg2:((s.bricks.length:Int) != t.bricks.length)=false:=by simp[g2]
 have HG0:=zh g0
 have HG1:=zh g1
 have HG2:=zh g2
 go_upto_region 5 with fail
 clear x5 lQ nk y5 iY iG Za Bm hg2
 go_wp2_with fail
 go_loopw [5] (fun z wr=>∃ j:Nat,j≤s.lines.length∧z = .int .i64 j∧s.lines.take j=t.lines.take j∧∃ n,wr=W1.drewN n) (fun z _=>s.lines.length-(intOf z).toNat)
 case atStart=>first | exact⟨0,yI _,rfl,by simp,_,rfl⟩ | exact⟨0,yI _,rfl,by simp,0,rfl⟩
 obtain⟨j,hj,rfl,gg,n,rfl⟩:=hrel
 have lp:=zh gg
 clear gg
 have XB:=eK.o
 have YB:=cF.o
 have x5:=XB.cell 5;simp only[aP,aQ,aO] at x5
 have y5:=YB.cell 5;simp only[aP,aQ,aO] at y5
 clear XB YB
 by_cases aw:j<s.lines.length
 ·have et:j<t.lines.length:=by omega
  obtain⟨b1,ct,e1,ao,bn⟩:=pg.o j aw
  rw[e1] at x5
  obtain⟨b2,L3,e2,bE,bM⟩:=pf.o j et
  rw[e2] at y5
  have nw:=zh (aC s.lines j aw)
  have ia:=zh (aC t.lines j et)
  have HNQ:Y0 (s.lines[j]≠t.lines[j]→decide (s=t)=false):=fun h=>gy.o fun e=>h (by subst e;rfl)
  have qzm:=bn j aw
  have qzl:=bM j et
  clear bn bM
  generalize s.lines[j]=a at *
  generalize t.lines[j]=b at *
  by_cases hq:a=b
  ·subst hq
   have ht:(a != a)=false:=bne_self_eq_false _
   go_wp2
   go_quiet (fail)
   go_wp2
   go_roundw
   case rel=>exact⟨j+1,by omega,by go_num,by rw[nw.o,ia.o,lp.o],_,rfl⟩
   simp[intOf];omega
  have HQ:=zh (HNQ.o hq)
  clear HNQ nw ia gy pR pg pf pj pi pu pq Yr lp
  have ht:(a != b)=true:=bne_iff_ne.2 hq
  go_wp2
  go_quiet (fail)
  go_wp2
  go_ret
  exact⟨Ze HQ.o.symm,Zf (Zf HB.o _) _⟩
 have mQ:j=s.lines.length:=by omega
 subst mQ
 have Yt:Y0 (s.lines=t.lines):=by have:=lp.o;rw[yT,HG0.o,yT] at this;exact this
 clear lp
 have lQ:=eK.o.cell 11;simp only[aP,aQ,aO] at lQ
 have iY:=cF.o.cell 11;simp only[aP,aQ,aO] at iY
 go_wp2_with fail
 clear x5 y5
 go_loopw [6] (fun z wr=>∃ j:Nat,j≤s.items.length∧z = .int .i64 j∧s.items.take j=t.items.take j∧∃ n,wr=W1.drewN n) (fun z _=>s.items.length-(intOf z).toNat)
 case atStart=>first | exact⟨0,yI _,rfl,by simp,_,rfl⟩ | exact⟨0,yI _,rfl,by simp,0,rfl⟩
 obtain⟨j,hj,rfl,gg,n,rfl⟩:=hrel
 have lp:=zh gg
 clear gg
 have XB:=eK.o
 have YB:=cF.o
 have lQ:=XB.cell 11;simp only[aP,aQ,aO] at lQ
 have iY:=YB.cell 11;simp only[aP,aQ,aO] at iY
 clear XB YB
 by_cases aw:j<s.items.length
 ·have et:j<t.items.length:=by omega
  obtain⟨b1,ct,e1,ao,bn⟩:=pj.o j aw
  rw[e1] at lQ
  obtain⟨b2,L3,e2,bE,bM⟩:=pi.o j et
  rw[e2] at iY
  have nw:=zh (aC s.items j aw)
  have ia:=zh (aC t.items j et)
  have HNQ:Y0 (s.items[j]≠t.items[j]→decide (s=t)=false):=fun h=>gy.o fun e=>h (by subst e;rfl)
  obtain⟨qzm,qvD,qvC,qk5,qk4,qk3,qk2⟩:=bn j aw
  obtain⟨qzl,qvv,qvu,qk1,qk0,qkZ,qkY⟩:=bM j et
  clear bn bM
  generalize s.items[j]=a at *
  generalize t.items[j]=b at *
  by_cases hq:a=b
  ·subst hq
   have hv0:(a.name.toList==a.name.toList)=true:=YF _
   have hv1:(a.pos==a.pos)=true:=YF _
   have VZ:(a.width==a.width)=true:=YF _
   have hv3:(a.wt==a.wt)=true:=YF _
   have hv4:(a.hang==a.hang)=true:=YF _
   have hv5:(a.front==a.front)=true:=YF _
   have hv6:(a.back==a.back)=true:=YF _
   go_wp2
   go_quiet (fail)
   go_wp2
   go_roundw
   case rel=>exact⟨j+1,by omega,by go_num,by rw[nw.o,ia.o,lp.o],_,rfl⟩
   simp[intOf];omega
  have HQ:=zh (HNQ.o hq)
  clear HNQ nw ia gy pR pg pf pj pi pu pq Yr lp
  by_cases n0:a.name=b.name
  rotate_left
  ·have hv0:(a.name.toList==b.name.toList)=false:=by rw[dc];exact yC n0
   clear hq n0
   go_wp2
   go_quiet (fail)
   go_wp2
   go_ret
   exact⟨Ze HQ.o.symm,Zf (Zf HB.o _) _⟩
  have hv0:(a.name.toList==b.name.toList)=true:=by rw[dc];exact yD n0
  by_cases n1:a.pos=b.pos
  rotate_left
  ·have hv1:(a.pos==b.pos)=false:=beq_eq_false_iff_ne.2 n1
   clear hq n0 n1
   go_wp2
   go_quiet (fail)
   go_wp2
   go_ret
   exact⟨Ze HQ.o.symm,Zf (Zf HB.o _) _⟩
  have hv1:(a.pos==b.pos)=true:=beq_iff_eq.2 n1
  by_cases n2:a.width=b.width
  rotate_left
  ·have VZ:(a.width==b.width)=false:=beq_eq_false_iff_ne.2 n2
   clear hq n0 n1 n2
   go_wp2
   go_quiet (fail)
   go_wp2
   go_ret
   exact⟨Ze HQ.o.symm,Zf (Zf HB.o _) _⟩
  have VZ:(a.width==b.width)=true:=beq_iff_eq.2 n2
  by_cases n3:a.wt=b.wt
  rotate_left
  ·have hv3:(a.wt==b.wt)=false:=beq_eq_false_iff_ne.2 n3
   clear hq n0 n1 n2 n3
   go_wp2
   go_quiet (fail)
   go_wp2
   go_ret
   exact⟨Ze HQ.o.symm,Zf (Zf HB.o _) _⟩
  have hv3:(a.wt==b.wt)=true:=beq_iff_eq.2 n3
  by_cases n4:a.hang=b.hang
  rotate_left
  ·have hv4:(a.hang==b.hang)=false:=beq_eq_false_iff_ne.2 n4
   clear hq n0 n1 n2 n3 n4
   go_wp2
   go_quiet (fail)
   go_wp2
   go_ret
   exact⟨Ze HQ.o.symm,Zf (Zf HB.o _) _⟩
  have hv4:(a.hang==b.hang)=true:=beq_iff_eq.2 n4
  by_cases n5:a.front=b.front
  rotate_left
  ·have hv5:(a.front==b.front)=false:=beq_eq_false_iff_ne.2 n5
   clear hq n0 n1 n2 n3 n4 n5
   go_wp2
   go_quiet (fail)
   go_wp2
   go_ret
   exact⟨Ze HQ.o.symm,Zf (Zf HB.o _) _⟩
  have hv5:(a.front==b.front)=true:=beq_iff_eq.2 n5
  by_cases n6:a.back=b.back
  rotate_left
  ·have hv6:(a.back==b.back)=false:=beq_eq_false_iff_ne.2 n6
   clear hq n0 n1 n2 n3 n4 n5 n6
   go_wp2
   go_quiet (fail)
   go_wp2
   go_ret
   exact⟨Ze HQ.o.symm,Zf (Zf HB.o _) _⟩
  have hv6:(a.back==b.back)=true:=beq_iff_eq.2 n6
  exact absurd (by cases a;cases b;simp only at n0 n1 n2 n3 n4 n5 n6;subst n0 n1 n2 n3 n4 n5 n6;rfl) hq
 have mQ:j=s.items.length:=by omega
 subst mQ
 have Q0:Y0 (s.items=t.items):=by have:=lp.o;rw[yT,HG1.o,yT] at this;exact this
 clear lp
 have nk:=eK.o.cell 12;simp only[aP,aQ,aO] at nk
 have iG:=cF.o.cell 12;simp only[aP,aQ,aO] at iG
 go_wp2_with fail
 clear lQ iY
 go_loopw [7] (fun z wr=>∃ j:Nat,j≤s.bricks.length∧z = .int .i64 j∧s.bricks.take j=t.bricks.take j∧∃ n,wr=W1.drewN n) (fun z _=>s.bricks.length-(intOf z).toNat)
 case atStart=>first | exact⟨0,yI _,rfl,by simp,_,rfl⟩ | exact⟨0,yI _,rfl,by simp,0,rfl⟩
 obtain⟨j,hj,rfl,gg,n,rfl⟩:=hrel
 have lp:=zh gg
 clear gg
 have XB:=eK.o
 have YB:=cF.o
 have nk:=XB.cell 12;simp only[aP,aQ,aO] at nk
 have iG:=YB.cell 12;simp only[aP,aQ,aO] at iG
 clear XB YB
 by_cases aw:j<s.bricks.length
 ·have et:j<t.bricks.length:=by omega
  obtain⟨b1,ct,e1,ao,bn⟩:=pu.o j aw
  rw[e1] at nk
  obtain⟨b2,L3,e2,bE,bM⟩:=pq.o j et
  rw[e2] at iG
  have nw:=zh (aC s.bricks j aw)
  have ia:=zh (aC t.bricks j et)
  have HNQ:Y0 (s.bricks[j]≠t.bricks[j]→decide (s=t)=false):=fun h=>gy.o fun e=>h (by subst e;rfl)
  obtain⟨qzm,qvD,qvC⟩:=bn j aw
  obtain⟨qzl,qvv,qvu⟩:=bM j et
  clear bn bM
  generalize s.bricks[j]=a at *
  generalize t.bricks[j]=b at *
  by_cases hq:a=b
  ·subst hq
   have hv0:(a.name.toList==a.name.toList)=true:=YF _
   have hv1:(a.wt==a.wt)=true:=YF _
   have VZ:(a.cnt==a.cnt)=true:=YF _
   go_wp2
   go_quiet (fail)
   go_wp2
   go_roundw
   case rel=>exact⟨j+1,by omega,by go_num,by rw[nw.o,ia.o,lp.o],_,rfl⟩
   simp[intOf];omega
  have HQ:=zh (HNQ.o hq)
  clear HNQ nw ia gy pR pg pf pj pi pu pq Yr lp
  by_cases n0:a.name=b.name
  rotate_left
  ·have hv0:(a.name.toList==b.name.toList)=false:=by rw[dc];exact yC n0
   clear hq n0
   go_wp2
   go_quiet (fail)
   go_wp2
   go_ret
   exact⟨Ze HQ.o.symm,Zf (Zf HB.o _) _⟩
  have hv0:(a.name.toList==b.name.toList)=true:=by rw[dc];exact yD n0
  by_cases n1:a.wt=b.wt
  rotate_left
  ·have hv1:(a.wt==b.wt)=false:=beq_eq_false_iff_ne.2 n1
   clear hq n0 n1
   go_wp2
   go_quiet (fail)
   go_wp2
   go_ret
   exact⟨Ze HQ.o.symm,Zf (Zf HB.o _) _⟩
  have hv1:(a.wt==b.wt)=true:=beq_iff_eq.2 n1
  by_cases n2:a.cnt=b.cnt
  rotate_left
  ·have VZ:(a.cnt==b.cnt)=false:=beq_eq_false_iff_ne.2 n2
   clear hq n0 n1 n2
   go_wp2
   go_quiet (fail)
   go_wp2
   go_ret
   exact⟨Ze HQ.o.symm,Zf (Zf HB.o _) _⟩
  have VZ:(a.cnt==b.cnt)=true:=beq_iff_eq.2 n2
  exact absurd (by cases a;cases b;simp only at n0 n1 n2;subst n0 n1 n2;rfl) hq
 have mQ:j=s.bricks.length:=by omega
 subst mQ
 have JN:Y0 (s.bricks=t.bricks):=by have:=lp.o;rw[yT,HG2.o,yT] at this;exact this
 clear lp
 have HE:Y0 (decide (s=t)=true):=by
  obtain⟨n0,n1,n2,n3,n4,n5,n6,n7,n8,n9⟩:=Yr.o
  exact pR.o ⟨n0,n1,n2,n3,n4,n5,n6,n7,n8,n9,Yt.o,Q0.o,JN.o⟩
 clear pR gy Yr Yt Q0 JN
 go_wp2
 go_ret
 exact⟨Ze HE.o.symm,Zf HB.o _⟩
end Go.Proofs.YtfhmbechennkbaaGreatDoor
