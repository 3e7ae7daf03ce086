/- Lemmas. -/
import Derived.Deep.Cut
import Derived.Test.YtfhmbechennkbaaGreatDoorD1
namespace Go.Proofs.YtfhmbechennkbaaGreatDoor
set_option maxRecDepth 100000
set_option maxHeartbeats 40000000
open Go.RowKit Go.Shelf
theorem Mh (v1 v2:Value) (l1 l2:List BrickT) (B:Nat) (w:World) (pL:BricksAt w B v1 l1) (rW:BricksAt w B v2 l2) :
  Calls Tryz.prog 116 #[v1,v2] w fun e w'=>e = .returned (.bool (decide (l1=l2)))∧∃ n,w.drewN n=w':=by
 obtain⟨A1,c1,rfl,gC,jo,bn⟩:=pL.open_
 obtain⟨A2,c2,rfl,dr,im,bM⟩:=rW.open_
 unfold maxLen at jo im
 clear pL rW
 by_cases bL:l1.length=l2.length
 ·have HL:=zh bL
  have hb:((l1.length:Int) != l2.length)=false:=by simp[bL]
  have qzh:l1.length≤l2.length:=by omega
  have qzg:l2.length≤l1.length:=by omega
  clear bL
  go_enter Tryz.func116,Tryz.ntmps116
  go_wp2
  go_loopw [13] (fun s wr=>∃ j:Nat,j≤l1.length∧s = .int .i64 j∧l1.take j=l2.take j∧∃ n,wr=w.drewN n) (fun x _=>l1.length-(intOf x).toNat)
  case atStart=>exact⟨0,yI _,rfl,by simp,0,rfl⟩
  obtain⟨j,hj,rfl,gg,n,rfl⟩:=hrel
  have lp:=zh gg
  clear gg
  by_cases aw:j<l1.length
  ·have et:j<l2.length:=by omega
   obtain⟨b1,ct,rfl,ao,bn⟩:=bn j aw
   obtain⟨b2,L3,rfl,bE,bM⟩:=bM j et
   have nw:=zh (aC l1 j aw)
   have ia:=zh (aC l2 j et)
   have gy:Y0 (l1[j]≠l2[j]→decide (l1=l2)=false):=fun h=>yC fun e=>h (by subst e;rfl)
   obtain⟨qzm,qvD,qvC⟩:=bn j aw
   obtain⟨qzl,qvv,qvu⟩:=bM j et
   clear bn bM
   generalize l1[j]=x at *
   generalize l2[j]=y at *
   by_cases hq:x=y
   ·subst hq
    have Wb:(x.name.toList==x.name.toList)=true:=YF _
    have IR:(x.wt==x.wt)=true:=YF _
    have IQ:(x.cnt==x.cnt)=true:=YF _
    go_wp2
    go_quiet (fail)
    go_wp2
    go_roundw
    case rel=>exact⟨j+1,by omega,by go_num,by rw[nw.o,ia.o,lp.o],_,rfl⟩
    simp[intOf];omega
   have HQ:=zh (gy.o hq)
   clear gy nw ia
   by_cases n0:x.name=y.name
   rotate_left
   ·have Wb:(x.name.toList==y.name.toList)=false:=by rw[dc];exact yC n0
    clear hq n0
    go_wp2
    go_quiet (fail)
    go_wp2
    go_ret
    exact⟨Ze HQ.o.symm,q2⟩
   have Wb:(x.name.toList==y.name.toList)=true:=by rw[dc];exact yD n0
   by_cases n1:x.wt=y.wt
   rotate_left
   ·have IR:(x.wt==y.wt)=false:=beq_eq_false_iff_ne.2 n1
    clear hq n0 n1
    go_wp2
    go_quiet (fail)
    go_wp2
    go_ret
    exact⟨Ze HQ.o.symm,q2⟩
   have IR:(x.wt==y.wt)=true:=beq_iff_eq.2 n1
   by_cases n2:x.cnt=y.cnt
   rotate_left
   ·have IQ:(x.cnt==y.cnt)=false:=beq_eq_false_iff_ne.2 n2
    clear hq n0 n1 n2
    go_wp2
    go_quiet (fail)
    go_wp2
    go_ret
    exact⟨Ze HQ.o.symm,q2⟩
   have IQ:(x.cnt==y.cnt)=true:=beq_iff_eq.2 n2
   exact absurd (by cases x;cases y;simp only at n0 n1 n2;subst n0 n1 n2;rfl) hq
  have mQ:j=l1.length:=by omega
  subst mQ
  go_wp2
  go_ret
  exact⟨Ze (by symm;rw[yO];have:=lp.o;rw[yT,HL.o,yT] at this;exact this),q1⟩
 have hb:((l1.length:Int) != l2.length)=true:=by simp;omega
 have fB:l1≠l2:=fun e=>bL (by rw[e])
 go_enter Tryz.func116,Tryz.ntmps116
 go_wp2
 go_ret
 exact⟨Ze (by symm;simpa using fB),0,rfl⟩
theorem PS (v1 v2:Value) (l1 l2:List ItemT) (B:Nat) (w:World) (pL:ItemsAt w B v1 l1) (rW:ItemsAt w B v2 l2) :
  Calls Tryz.prog 115 #[v1,v2] w fun e w'=>e = .returned (.bool (decide (l1=l2)))∧∃ n,w.drewN n=w':=by
 obtain⟨A1,c1,rfl,gC,jo,bn⟩:=pL.open_
 obtain⟨A2,c2,rfl,dr,im,bM⟩:=rW.open_
 unfold maxLen at jo im
 clear pL rW
 by_cases bL:l1.length=l2.length
 ·have HL:=zh bL
  have hb:((l1.length:Int) != l2.length)=false:=by simp[bL]
  have qzh:l1.length≤l2.length:=by omega
  have qzg:l2.length≤l1.length:=by omega
  clear bL
  go_enter Tryz.func115,Tryz.ntmps115
  go_wp2
  go_loopw [13] (fun s wr=>∃ j:Nat,j≤l1.length∧s = .int .i64 j∧l1.take j=l2.take j∧∃ n,wr=w.drewN n) (fun x _=>l1.length-(intOf x).toNat)
  case atStart=>exact⟨0,yI _,rfl,by simp,0,rfl⟩
  obtain⟨j,hj,rfl,gg,n,rfl⟩:=hrel
  have lp:=zh gg
  clear gg
  by_cases aw:j<l1.length
  ·have et:j<l2.length:=by omega
   obtain⟨b1,ct,rfl,ao,bn⟩:=bn j aw
   obtain⟨b2,L3,rfl,bE,bM⟩:=bM j et
   have nw:=zh (aC l1 j aw)
   have ia:=zh (aC l2 j et)
   have gy:Y0 (l1[j]≠l2[j]→decide (l1=l2)=false):=fun h=>yC fun e=>h (by subst e;rfl)
   obtain⟨qzm,qvD,qvC,qk5,qk4,qk3,qk2⟩:=bn j aw
   obtain⟨qzl,qvv,qvu,qk1,qk0,qkZ,qkY⟩:=bM j et
   clear bn bM
   generalize l1[j]=x at *
   generalize l2[j]=y at *
   by_cases hq:x=y
   ·subst hq
    have Wb:(x.name.toList==x.name.toList)=true:=YF _
    have IR:(x.pos==x.pos)=true:=YF _
    have IQ:(x.width==x.width)=true:=YF _
    have Wa:(x.wt==x.wt)=true:=YF _
    have ht4:(x.hang==x.hang)=true:=YF _
    have ht5:(x.front==x.front)=true:=YF _
    have ht6:(x.back==x.back)=true:=YF _
    go_wp2
    go_quiet (fail)
    go_wp2
    go_roundw
    case rel=>exact⟨j+1,by omega,by go_num,by rw[nw.o,ia.o,lp.o],_,rfl⟩
    simp[intOf];omega
   have HQ:=zh (gy.o hq)
   clear gy nw ia
   by_cases n0:x.name=y.name
   rotate_left
   ·have Wb:(x.name.toList==y.name.toList)=false:=by rw[dc];exact yC n0
    clear hq n0
    go_wp2
    go_quiet (fail)
    go_wp2
    go_ret
    exact⟨Ze HQ.o.symm,q2⟩
   have Wb:(x.name.toList==y.name.toList)=true:=by rw[dc];exact yD n0
   by_cases n1:x.pos=y.pos
   rotate_left
   ·have IR:(x.pos==y.pos)=false:=beq_eq_false_iff_ne.2 n1
    clear hq n0 n1
    go_wp2
    go_quiet (fail)
    go_wp2
    go_ret
    exact⟨Ze HQ.o.symm,q2⟩
   have IR:(x.pos==y.pos)=true:=beq_iff_eq.2 n1
   by_cases n2:x.width=y.width
   rotate_left
   ·have IQ:(x.width==y.width)=false:=beq_eq_false_iff_ne.2 n2
    clear hq n0 n1 n2
    go_wp2
    go_quiet (fail)
    go_wp2
    go_ret
    exact⟨Ze HQ.o.symm,q2⟩
   have IQ:(x.width==y.width)=true:=beq_iff_eq.2 n2
   by_cases n3:x.wt=y.wt
   rotate_left
   ·have Wa:(x.wt==y.wt)=false:=beq_eq_false_iff_ne.2 n3
    clear hq n0 n1 n2 n3
    go_wp2
    go_quiet (fail)
    go_wp2
    go_ret
    exact⟨Ze HQ.o.symm,q2⟩
   have Wa:(x.wt==y.wt)=true:=beq_iff_eq.2 n3
   by_cases n4:x.hang=y.hang
   rotate_left
   ·have ht4:(x.hang==y.hang)=false:=beq_eq_false_iff_ne.2 n4
    clear hq n0 n1 n2 n3 n4
    go_wp2
    go_quiet (fail)
    go_wp2
    go_ret
    exact⟨Ze HQ.o.symm,q2⟩
   have ht4:(x.hang==y.hang)=true:=beq_iff_eq.2 n4
   by_cases n5:x.front=y.front
   rotate_left
   ·have ht5:(x.front==y.front)=false:=beq_eq_false_iff_ne.2 n5
    clear hq n0 n1 n2 n3 n4 n5
    go_wp2
    go_quiet (fail)
    go_wp2
    go_ret
    exact⟨Ze HQ.o.symm,q2⟩
   have ht5:(x.front==y.front)=true:=beq_iff_eq.2 n5
   by_cases n6:x.back=y.back
   rotate_left
   ·have ht6:(x.back==y.back)=false:=beq_eq_false_iff_ne.2 n6
    clear hq n0 n1 n2 n3 n4 n5 n6
    go_wp2
    go_quiet (fail)
    go_wp2
    go_ret
    exact⟨Ze HQ.o.symm,q2⟩
   have ht6:(x.back==y.back)=true:=beq_iff_eq.2 n6
   exact absurd (by cases x;cases y;simp only at n0 n1 n2 n3 n4 n5 n6;subst n0 n1 n2 n3 n4 n5 n6;rfl) hq
  have mQ:j=l1.length:=by omega
  subst mQ
  go_wp2
  go_ret
  exact⟨Ze (by symm;rw[yO];have:=lp.o;rw[yT,HL.o,yT] at this;exact this),q1⟩
 have hb:((l1.length:Int) != l2.length)=true:=by simp;omega
 have fB:l1≠l2:=fun e=>bL (by rw[e])
 go_enter Tryz.func115,Tryz.ntmps115
 go_wp2
 go_ret
 exact⟨Ze (by symm;simpa using fB),0,rfl⟩
theorem qxD (v1 v2:Value) (s t:SetT) (w:World) (h1:SetAt w w.heap.size v1 s) (h2:SetAt w w.heap.size v2 t) :
  Calls Tryz.prog 71 #[v1,v2] w fun e w'=>e = .returned (.bool (decide (s=t)))∧Below w.heap.size w w':=by
 obtain⟨Y7,Qd,Y9,X9,YO,Qi,rfl,PK,hI1,QL⟩:=h1
 obtain⟨Y6,Qc,Y8,X8,YN,Qh,rfl,PI,hI2,nC⟩:=h2
 have eK:=zh ((Blk.new w 26 (zA s Y7 Qd Y9 X9 YO Qi)).alloc (.cells (zA t Y6 Qc Y8 X8 YN Qh) 26))
 have im:=Blk.new (w.alloc (.cells (zA s Y7 Qd Y9 X9 YO Qi) 26)) 26 (zA t Y6 Qc Y8 X8 YN Qh)
 rw[yZ] at im
 have cF:=zh im
 have hb:=((yB _ w).alloc (yA _) (.cells (zA s Y7 Qd Y9 X9 YO Qi) 26)).alloc (by simp) (.cells (zA t Y6 Qc Y8 X8 YN Qh) 26)
 have HB:=zh hb
 have QW:=zh fun W (hb:Below w.heap.size w W)=>Xp _ _ s.lines t.lines _ W (RowAt.below PK hb (yA _)) (RowAt.below PI hb (yA _))
 have QX:=zh fun W (hb:Below w.heap.size w W)=>PS _ _ s.items t.items _ W (hI1.below hb (yA _)) (hI2.below hb (yA _))
 have QY:=zh fun W (hb:Below w.heap.size w W)=>Mh _ _ s.bricks t.bricks _ W (QL.below hb (yA _)) (nC.below hb (yA _))
 have gy:Y0 (s≠t→decide (s=t)=false):=fun h=>yC h
 have pR:Y0 (s.name=t.name∧s.depth=t.depth∧s.low=t.low∧s.high=t.high∧s.len=t.len∧s.pipe=t.pipe∧s.arbor=t.arbor∧s.purch=t.purch∧s.most=t.most∧s.brake=t.brake∧s.lines=t.lines∧s.items=t.items∧s.bricks=t.bricks→decide (s=t)=true):=by
  rintro⟨e0,e1,e2,e3,e4,e5,e6,e7,e8,e9,e10,e11,e12⟩
  rw[yO]
  cases s;cases t
  simp only at e0 e1 e2 e3 e4 e5 e6 e7 e8 e9 e10 e11 e12
  subst e0 e1 e2 e3 e4 e5 e6 e7 e8 e9 e10 e11 e12
  rfl
 clear PK PI hI1 hI2 QL nC im hb
 unfold aL at *
 go_enter Tryz.func71,Tryz.ntmps71
 go_upto_region 1 with fail
 generalize (Value.agg (zA s Y7 Qd Y9 X9 YO Qi))=V1
 generalize (Value.agg (zA t Y6 Qc Y8 X8 YN Qh))=V2
 generalize ((w.alloc (.cells (zA s Y7 Qd Y9 X9 YO Qi) 26)).alloc (.cells (zA t Y6 Qc Y8 X8 YN Qh) 26))=W1 at *
 have x0:=eK.o.cell 0;have x1:=eK.o.cell 1;have x2:=eK.o.cell 2;have x3:=eK.o.cell 3;have x4:=eK.o.cell 4;have x5:=eK.o.cell 5;have x6:=eK.o.cell 6;have x7:=eK.o.cell 7;have x8:=eK.o.cell 8;have x9:=eK.o.cell 9;have uO:=eK.o.cell 10;have lQ:=eK.o.cell 11;have nk:=eK.o.cell 12;simp only[aP,aQ,aO] at x0 x1 x2 x3 x4 x5 x6 x7 x8 x9 uO lQ nk
 have y0:=cF.o.cell 0;have y1:=cF.o.cell 1;have y2:=cF.o.cell 2;have y3:=cF.o.cell 3;have y4:=cF.o.cell 4;have y5:=cF.o.cell 5;have y6:=cF.o.cell 6;have y7:=cF.o.cell 7;have y8:=cF.o.cell 8;have y9:=cF.o.cell 9;have lM:=cF.o.cell 10;have iY:=cF.o.cell 11;have iG:=cF.o.cell 12;simp only[aP,aQ,aO] at y0 y1 y2 y3 y4 y5 y6 y7 y8 y9 lM iY iG
 by_cases n0:s.name=t.name
 rotate_left
 ·have Wb:(s.name.toList==t.name.toList)=false:=by rw[dc];exact yC n0
  have HN:=zh (gy.o fun e=>n0 (by rw[e]))
  clear gy pR QW QX QY n0
  clear x1 x2 x3 x4 x6 x7 x8 x9 uO x5 lQ nk y1 y2 y3 y4 y6 y7 y8 y9 lM y5 iY iG
  go_wp2_with fail
  go_ret
  exact⟨Ze HN.o.symm,HB.o⟩
 have Wb:(s.name.toList==t.name.toList)=true:=by rw[dc];exact yD n0
 by_cases n1:s.depth=t.depth
 rotate_left
 ·have IR:(s.depth==t.depth)=false:=beq_eq_false_iff_ne.2 n1
  have HN:=zh (gy.o fun e=>n1 (by rw[e]))
  clear gy pR QW QX QY n0 n1
  clear x2 x3 x4 x6 x7 x8 x9 uO x5 lQ nk y2 y3 y4 y6 y7 y8 y9 lM y5 iY iG
  go_wp2_with fail
  go_ret
  exact⟨Ze HN.o.symm,HB.o⟩
 have IR:(s.depth==t.depth)=true:=beq_iff_eq.2 n1
 by_cases n2:s.low=t.low
 rotate_left
 ·have IQ:(s.low==t.low)=false:=beq_eq_false_iff_ne.2 n2
  have HN:=zh (gy.o fun e=>n2 (by rw[e]))
  clear gy pR QW QX QY n0 n1 n2
  clear x3 x4 x6 x7 x8 x9 uO x5 lQ nk y3 y4 y6 y7 y8 y9 lM y5 iY iG
  go_wp2_with fail
  go_ret
  exact⟨Ze HN.o.symm,HB.o⟩
 have IQ:(s.low==t.low)=true:=beq_iff_eq.2 n2
 by_cases n3:s.high=t.high
 rotate_left
 ·have Wa:(s.high==t.high)=false:=beq_eq_false_iff_ne.2 n3
  have HN:=zh (gy.o fun e=>n3 (by rw[e]))
  clear gy pR QW QX QY n0 n1 n2 n3
  clear x4 x6 x7 x8 x9 uO x5 lQ nk y4 y6 y7 y8 y9 lM y5 iY iG
  go_wp2_with fail
  go_ret
  exact⟨Ze HN.o.symm,HB.o⟩
 have Wa:(s.high==t.high)=true:=beq_iff_eq.2 n3
 by_cases n4:s.len=t.len
 rotate_left
 ·have ht4:(s.len==t.len)=false:=beq_eq_false_iff_ne.2 n4
  have HN:=zh (gy.o fun e=>n4 (by rw[e]))
  clear gy pR QW QX QY n0 n1 n2 n3 n4
  clear x6 x7 x8 x9 uO x5 lQ nk y6 y7 y8 y9 lM y5 iY iG
  go_wp2_with fail
  go_ret
  exact⟨Ze HN.o.symm,HB.o⟩
 have ht4:(s.len==t.len)=true:=beq_iff_eq.2 n4
 by_cases n5:s.pipe=t.pipe
 rotate_left
 ·have ht5:(s.pipe==t.pipe)=false:=beq_eq_false_iff_ne.2 n5
  have HN:=zh (gy.o fun e=>n5 (by rw[e]))
  clear gy pR QW QX QY n0 n1 n2 n3 n4 n5
  clear x7 x8 x9 uO x5 lQ nk y7 y8 y9 lM y5 iY iG
  go_wp2_with fail
  go_ret
  exact⟨Ze HN.o.symm,HB.o⟩
 have ht5:(s.pipe==t.pipe)=true:=beq_iff_eq.2 n5
 by_cases n6:s.arbor=t.arbor
 rotate_left
 ·have ht6:(s.arbor==t.arbor)=false:=beq_eq_false_iff_ne.2 n6
  have HN:=zh (gy.o fun e=>n6 (by rw[e]))
  clear gy pR QW QX QY n0 n1 n2 n3 n4 n5 n6
  clear x8 x9 uO x5 lQ nk y8 y9 lM y5 iY iG
  go_wp2_with fail
  go_ret
  exact⟨Ze HN.o.symm,HB.o⟩
 have ht6:(s.arbor==t.arbor)=true:=beq_iff_eq.2 n6
 by_cases n7:s.purch=t.purch
 rotate_left
 ·have ht7:(s.purch==t.purch)=false:=beq_eq_false_iff_ne.2 n7
  have HN:=zh (gy.o fun e=>n7 (by rw[e]))
  clear gy pR QW QX QY n0 n1 n2 n3 n4 n5 n6 n7
  clear x9 uO x5 lQ nk y9 lM y5 iY iG
  go_wp2_with fail
  go_ret
  exact⟨Ze HN.o.symm,HB.o⟩
 have ht7:(s.purch==t.purch)=true:=beq_iff_eq.2 n7
 by_cases n8:s.most=t.most
 rotate_left
 ·have ht8:(s.most==t.most)=false:=beq_eq_false_iff_ne.2 n8
  have HN:=zh (gy.o fun e=>n8 (by rw[e]))
  clear gy pR QW QX QY n0 n1 n2 n3 n4 n5 n6 n7 n8
  clear uO x5 lQ nk lM y5 iY iG
  go_wp2_with fail
  go_ret
  exact⟨Ze HN.o.symm,HB.o⟩
 have ht8:(s.most==t.most)=true:=beq_iff_eq.2 n8
 by_cases n9:s.brake=t.brake
 rotate_left
 ·have ht9:(s.brake==t.brake)=false:=beq_eq_false_iff_ne.2 n9
  have HN:=zh (gy.o fun e=>n9 (by rw[e]))
  clear gy pR QW QX QY n0 n1 n2 n3 n4 n5 n6 n7 n8 n9
  clear x5 lQ nk y5 iY iG
  go_wp2_with fail
  go_ret
  exact⟨Ze HN.o.symm,HB.o⟩
 have ht9:(s.brake==t.brake)=true:=beq_iff_eq.2 n9
 have Yr:Y0 (s.name=t.name∧s.depth=t.depth∧s.low=t.low∧s.high=t.high∧s.len=t.len∧s.pipe=t.pipe∧s.arbor=t.arbor∧s.purch=t.purch∧s.most=t.most∧s.brake=t.brake):=⟨n0,n1,n2,n3,n4,n5,n6,n7,n8,n9⟩
 clear n0 n1 n2 n3 n4 n5 n6 n7 n8 n9
 go_wp2_with fail
 refine (QW.o _ HB.o).mono ?_
 rintro e w2 ⟨rfl,nq,rfl⟩
 have bK:=zh (Zf HB.o nq)
 have HDA:=zh (eK.o.drewN nq)
 have HDB:=zh (cF.o.drewN nq)
 clear eK cF HB QW Wb IR IQ Wa ht4 ht5 ht6 ht7 ht8 ht9 x0 x1 x2 x3 x4 x5 x6 x7 x8 x9 uO lQ nk y0 y1 y2 y3 y4 y5 y6 y7 y8 y9 lM iY iG
 generalize W1.drewN nq=W2 at *
 have lQ:=HDA.o.cell 11;have nk:=HDA.o.cell 12;simp only[aP,aQ,aO] at lQ nk
 have iY:=HDB.o.cell 11;have iG:=HDB.o.cell 12;simp only[aP,aQ,aO] at iY iG
 by_cases m0:s.lines=t.lines
 rotate_left
 ·have HN:=zh (gy.o fun e=>m0 (by rw[e]))
  rw[yC m0]
  clear gy pR m0
  go_wp2_with fail
  go_ret
  exact⟨Ze HN.o.symm,bK.o⟩
 rw[yD m0]
 have Yt:=zh m0
 clear m0
 go_wp2_with fail
 refine (QX.o _ bK.o).mono ?_
 rintro e w2 ⟨rfl,nq2,rfl⟩
 have bY:=zh (Zf bK.o nq2)
 have vqz:=zh (HDA.o.drewN nq2)
 have vqy:=zh (HDB.o.drewN nq2)
 clear HDA HDB bK QX lQ nk iY iG
 generalize W2.drewN nq2=W3 at *
 have nk:=vqz.o.cell 12;simp only[aP,aQ,aO] at nk
 have iG:=vqy.o.cell 12;simp only[aP,aQ,aO] at iG
 by_cases m1:s.items=t.items
 rotate_left
 ·have HN:=zh (gy.o fun e=>m1 (by rw[e]))
  rw[yC m1]
  clear gy pR m1
  go_wp2_with fail
  go_ret
  exact⟨Ze HN.o.symm,bY.o⟩
 rw[yD m1]
 have Q0:=zh m1
 clear m1
 go_wp2_with fail
 refine (QY.o _ bY.o).mono ?_
 rintro e w2 ⟨rfl,nq3,rfl⟩
 have dU:=zh (Zf bY.o nq3)
 clear bY QY
 by_cases m2:s.bricks=t.bricks
 rotate_left
 ·have HN:=zh (gy.o fun e=>m2 (by rw[e]))
  rw[yC m2]
  clear gy pR m2
  go_wp2_with fail
  go_ret
  exact⟨Ze HN.o.symm,dU.o⟩
 rw[yD m2]
 have HE:Y0 (decide (s=t)=true):=by
  obtain⟨n0,n1,n2,n3,n4,n5,n6,n7,n8,n9⟩:=Yr.o
  exact pR.o ⟨n0,n1,n2,n3,n4,n5,n6,n7,n8,n9,Yt.o,Q0.o,m2⟩
 clear pR gy Yr Yt Q0 m2
 go_wp2_with fail
 go_ret
 exact⟨Ze HE.o.symm,dU.o⟩
end Go.Proofs.YtfhmbechennkbaaGreatDoor
