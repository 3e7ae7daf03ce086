/- Lemmas. -/
import Derived.Test.YtknkhnahflmjiaaGreatDoorM3
import Derived.Test.YtknkhnahflmjiaaGreatDoorQ3
namespace Go.Proofs.YtknkhnahflmjiaaGreatDoor
set_option maxRecDepth 100000
set_option maxHeartbeats 40000000
open Go.RowKit Go.Shelf
def AtU (B:Nat) (v:Value) (w:World):Prop:=∃ g,v = .pointer (some ⟨g,0,none⟩)∧B≤g∧Blk w g 133 #[.int .u64 0,.int .u64 0]
def gU (B:Nat):GPost:=⟨fun v=>∃ g,v = .pointer (some ⟨g,0,none⟩),AtU B,⟨_,0,rfl⟩,fun _ _ _ hb h=>by
 obtain⟨g,h1,h2,h3⟩:=h
 exact⟨g,h1,h2,h3.below hb h3.lt⟩,true⟩
theorem gU_new {P:Program} {o:Oper} {a:Act} {w:World} {B:Nat} (hB:B≤w.heap.size) (h:(execOp a.eval o).run P w = .ok (.value (.pointer (some ⟨w.heap.size,0,none⟩))) (w.alloc (.cells #[.int .u64 0,.int .u64 0] 133))):newAt P o a (gU B) w :=
 ⟨_,_,h,(yB _ _).alloc (yA _) _,⟨_,rfl⟩,⟨_,rfl,hB,Blk.new _ _ _⟩,fun _=>⟨w.heap.size,rfl,yA _,by simp⟩⟩
theorem rsize_g {n:Int} (w:World) (h1 : -1152921504606846976≤n) (h2:n≤1152921504606846976) :
  Calls Tryz.prog 95 #[.int .i64 n] w fun e w'=>∃ v,e = .returned v∧Below w.heap.size w w'∧(gV (.int .u64 (n.natAbs:Nat))).σ v∧(gV (.int .u64 (n.natAbs:Nat))).φ v w' :=
 (refSize n w h1 h2).mono fun _ _ ⟨he,hw⟩=>⟨_,he,hw▸yB _ _,rfl,trivial⟩
theorem rmul_g {x y:Nat} (w:World) (hx:x<18446744073709551616) (hy:y<18446744073709551616) :
  Calls Tryz.prog 98 #[.int .u64 x,.int .u64 y] w fun e w'=>∃ v,e = .returned v∧Below w.heap.size w w'∧(gV (wideV (x*y))).σ v∧(gV (wideV (x*y))).φ v w' :=
 (refMul x y hx hy w).mono fun _ _ ⟨he,hb⟩=>⟨_,he,hb,rfl,trivial⟩
theorem us_stored {o w W:World} {g6 g7:Nat} {xn xd yn yd:Value} (hB:Below w.heap.size w W) (h6:w.heap.size + 1 < g6) (h7:w.heap.size + 1 < g7) (hne:g7 ≠ g6) (b6:Blk W g6 133 #[.int .u64 0,.int .u64 0]) (b7:Blk W g7 133 #[.int .u64 0,.int .u64 0])
  (d0:Blk W w.heap.size 23 #[xn,xd]) (d1:Blk W (w.heap.size+1) 23 #[yn,yd]) (x0 x1 y0 y1:Value) (hW:o=((((W.setCell ⟨g6,0,none⟩ x0).setCell ⟨g6,1,none⟩ x1).setCell ⟨g7,0,none⟩ y0).setCell ⟨g7,1,none⟩ y1)) :
  Below w.heap.size w o∧Blk o g6 133 #[x0,x1]∧Blk o g7 133 #[y0,y1]∧Blk o w.heap.size 23 #[xn,xd]∧Blk o (w.heap.size+1) 23 #[yn,yd]:=by
 subst hW
 have k4:=fun {g:Nat} {t:TypeId} {c:Array Value} (hb:Blk W g t c) (h1:g≠g6) (h2:g≠g7)=>(((hb.far (p:=⟨g6,0,none⟩) h1 x0).far (p:=⟨g6,1,none⟩) h1 x1).far (p:=⟨g7,0,none⟩) h2 y0).far (p:=⟨g7,1,none⟩) h2 y1
 exact⟨(((hB.setCell (by show w.heap.size≤g6;omega) _).setCell (by show w.heap.size≤g6;omega) _).setCell (by show w.heap.size≤g7;omega) _).setCell (by show w.heap.size≤g7;omega) _,
  (((b6.set_ 0 x0).set_ 1 x1).far (p:=⟨g7,0,none⟩) (Ne.symm hne) y0).far (p:=⟨g7,1,none⟩) (Ne.symm hne) y1,(((b7.far (p:=⟨g6,0,none⟩) hne x0).far (p:=⟨g6,1,none⟩) hne x1).set_ 0 y0).set_ 1 y1,k4 d0 (by omega) (by omega),k4 d1 (by omega) (by omega)⟩
theorem refLess (m n:Nat) (w:World):Calls Tryz.prog 138 #[wideV m,wideV n] w fun e w'=>e = .returned (.bool (decide (m<n)))∧Below w.heap.size w w':=by
 have HV:Hid ((m<n)↔_):=div_lt_of (m:=m) (n:=n) (K:=18446744073709551616) (by decide)
 have HD:=zh (Blk.new w 133 #[.int .u64 ((m / 18446744073709551616:Nat):Int),.int .u64 ((m % 18446744073709551616:Nat):Int)])
 have HD2:=zh ((Blk.new w 133 #[.int .u64 ((m / 18446744073709551616:Nat):Int),.int .u64 ((m % 18446744073709551616:Nat):Int)]).alloc (.cells #[.int .u64 ((n / 18446744073709551616:Nat):Int),.int .u64 ((n % 18446744073709551616:Nat):Int)] 133))
 have HB:=zh (((yB _ w).alloc (yA _) (.cells #[.int .u64 ((m / 18446744073709551616:Nat):Int),.int .u64 ((m % 18446744073709551616:Nat):Int)] 133)).alloc (by simp) (.cells #[.int .u64 ((n / 18446744073709551616:Nat):Int),.int .u64 ((n % 18446744073709551616:Nat):Int)] 133))
 unfold wideV
 generalize m / 18446744073709551616=mh at *
 generalize m % 18446744073709551616=ml at *
 generalize n / 18446744073709551616=nh at *
 generalize n % 18446744073709551616=nl at *
 by_cases h1:mh<nh
 ·have d1:decide (mh<nh)=true:=yD h1
  have HR:Hid (decide (m<n)=true):=yD (HV.out.2 (.inl h1))
  clear h1
  go_enter Tryz.func138,Tryz.ntmps138
  go_wp2
  go_ret
  exact⟨Ze HR.out.symm,HB.out⟩
 have d1:decide (mh<nh)=false:=yC h1
 by_cases h2:mh=nh
 ·subst h2
  have HR:Hid (decide (m<n)=decide (ml<nl)):=by
   unfold Hid
   rw[Bool.eq_iff_iff,yO,yO,HV.out]
   omega
  clear h1
  go_enter Tryz.func138,Tryz.ntmps138
  go_wp2
  go_ret
  exact⟨Ze HR.out.symm,HB.out⟩
 have d2:((mh:Int)==(nh:Int))=false:=beq_eq_false_iff_ne.2 (by omega)
 have HR:Hid (decide (m<n)=false):=yC (by rw[HV.out];omega)
 clear h1 h2
 go_enter Tryz.func138,Tryz.ntmps138
 go_wp2
 go_ret
 exact⟨Ze HR.out.symm,HB.out⟩
theorem refCmp (a b:FrT) (w:World) (ha:frGood a=true) (hb:frGood b=true) (hb0:0≤b.num) :
  Calls Tryz.prog 110 #[a.val,b.val] w fun e w'=>e = .returned (.int .i64 (cmpF a b))∧Below w.heap.size w w':=by
 have HN:=zh fun (h0:0≤a.num)=>cmp_nat ha hb h0 hb0
 have HG:=zh fun (h0:a.num<0)=>cmp_neg ha hb h0 hb0
 obtain⟨a1,a2,a3,a4⟩:=good_bd ha
 obtain⟨b1,b2,b3,b4⟩:=good_bd hb
 have hDa:=fun W=>rsize_g (n:=a.den) W (by omega) a2
 have hDb:=fun W=>rsize_g (n:=b.den) W (by omega) b2
 have hSa:=fun W=>rsize_g (n:=a.num) W a3 a4
 have hSb:=fun W=>rsize_g (n:=b.num) W b3 b4
 have hP1:=fun W=>rmul_g (x:=a.num.natAbs) (y:=b.den.natAbs) W (by omega) (by omega)
 have hP2:=fun W=>rmul_g (x:=b.num.natAbs) (y:=a.den.natAbs) W (by omega) (by omega)
 have dbn:decide (b.num<0)=false:=yC (by omega)
 clear ha hb a1 a2 a3 a4 b1 b2 b3 b4
 have HV:Hid (cmpF a b=if a.num*b.den<b.num*a.den then -1 else if b.num*a.den<a.num*b.den then 1 else 0):=rfl
 generalize cmpF a b=cr at *
 obtain⟨an,ad⟩:=a
 obtain⟨bn,bd⟩:=b
 simp only at *
 have HSa:=zh hSa
 have HDa:=zh hDa
 have HDb:=zh hDb
 have HSb:=zh hSb
 have HP1:=zh hP1
 have HP2:=zh hP2
 clear hSa hSb hP1 hP2 hDa hDb
 have D0:=(Blk.new w 23 #[.int .i64 an,.int .i64 ad]).alloc (.cells #[.int .i64 bn,.int .i64 bd] 23)
 have D1:=Blk.new (w.alloc (.cells #[.int .i64 an,.int .i64 ad] 23)) 23 #[.int .i64 bn,.int .i64 bd]
 rw[yY] at D1
 have hB:=((yB _ w).alloc (yA _) (.cells #[.int .i64 an,.int .i64 ad] 23)).alloc (by simp) (.cells #[.int .i64 bn,.int .i64 bd] 23)
 have hs:((w.alloc (.cells #[.int .i64 an,.int .i64 ad] 23)).alloc (.cells #[.int .i64 bn,.int .i64 bd] 23)).heap.size=w.heap.size+1+1:=by simp
 go_enter Tryz.func110,Tryz.ntmps110
 go_wp2_with (exact Go.WalkKit.wp_stop)
 generalize (w.alloc (.cells #[.int .i64 an,.int .i64 ad] 23)).alloc (.cells #[.int .i64 bn,.int .i64 bd] 23)=w3 at *
 have D0:=zh D0
 have D1:=zh D1
 have HB:=zh hB
 have Hs:Hid (w.heap.size+1<w3.heap.size):=by unfold Hid;omega
 clear hB hs
 have y0:=D0.out.cell 0
 have y1:=D0.out.cell 1
 have y2:=D1.out.cell 0
 have y3:=D1.out.cell 1
 simp only[zq1,zq2,zq3] at y0 y1 y2 y3
 have u0:=YE y0
 have u1:=YE y1
 have u2:=YE y2
 have u3:=YE y3
 clear y0 y1 y2 y3
 refine wp_region_apart 16 (fun jx=>if jx=2 then some (gV (.int .u64 (an.natAbs:Nat))) else if jx=5 then some (gV (.int .u64 (bd.natAbs:Nat))) else if jx=6 then some (gV (wideV (an.natAbs*bd.natAbs))) else if jx=9 then some (gV (.int .u64 (bn.natAbs:Nat))) else if jx=12 then some (gV (.int .u64 (ad.natAbs:Nat))) else if jx=13 then some (gV (wideV (bn.natAbs*ad.natAbs))) else if jx=14 then some (gU w3.heap.size) else if jx=15 then some (gU w3.heap.size) else none) [5,6] (by kernel_rfl) (by kernel_rfl) (by kernel_rfl) (two_none rfl rfl) ?_
 simp only[zt1,zt2,zt3,zt4]
 refine wpG_quiet 2 (by kernel_rfl) (by rfl) (by decide) ?_
 simp only[zt1,zt2,zt3,zt4]
 repeat (go_big_quiet_step (fail))
 refine YB ?_
 refine wpG_call rfl rfl (fun w1 _ _=>⟨95,#[.int .i64 an],by go_simp,HSa.out w1⟩) ?_
 rintro _ rfl
 simp only[Act.put,zs1,zs2,zs3]
 refine wpG_quiet 2 (by kernel_rfl) (by rfl) (by decide) ?_
 simp only[zt1,zt2,zt3,zt4]
 repeat (go_big_quiet_step (fail))
 refine YB ?_
 refine wpG_call rfl rfl (fun w1 _ _=>⟨95,#[.int .i64 bd],by go_simp,HDb.out w1⟩) ?_
 rintro _ rfl
 simp only[Act.put,zs1,zs2,zs3]
 refine wpG_call rfl rfl (fun w1 _ _=>⟨98,#[.int .u64 (an.natAbs:Nat),.int .u64 (bd.natAbs:Nat)],by go_simp,HP1.out w1⟩) ?_
 rintro _ rfl
 simp only[Act.put,zs1,zs2,zs3]
 refine wpG_quiet 2 (by kernel_rfl) (by rfl) (by decide) ?_
 simp only[zt1,zt2,zt3,zt4]
 repeat (go_big_quiet_step (fail))
 refine YB ?_
 refine wpG_call rfl rfl (fun w1 _ _=>⟨95,#[.int .i64 bn],by go_simp,HSb.out w1⟩) ?_
 rintro _ rfl
 simp only[Act.put,zs1,zs2,zs3]
 refine wpG_quiet 2 (by kernel_rfl) (by rfl) (by decide) ?_
 simp only[zt1,zt2,zt3,zt4]
 repeat (go_big_quiet_step (fail))
 refine YB ?_
 refine wpG_call rfl rfl (fun w1 _ _=>⟨95,#[.int .i64 ad],by go_simp,HDa.out w1⟩) ?_
 rintro _ rfl
 simp only[Act.put,zs1,zs2,zs3]
 refine wpG_call rfl rfl (fun w1 _ _=>⟨98,#[.int .u64 (bn.natAbs:Nat),.int .u64 (ad.natAbs:Nat)],by go_simp,HP2.out w1⟩) ?_
 rintro _ rfl
 simp only[Act.put,zs1,zs2,zs3]
 refine wpG_new rfl rfl (fun w1 hb1 _=>gU_new hb1.size (by go_simp)) ?_
 rintro _ ⟨g6,rfl⟩
 simp only[Act.put,zs1,zs2,zs3]
 refine wpG_new rfl rfl (fun w1 hb1 _=>gU_new hb1.size (by go_simp)) ?_
 rintro _ ⟨g7,rfl⟩
 simp only[Act.put,zs1,zs2,zs3]
 refine Zc ?_
 intro w8 hb8 hF hA
 have h6:AtU w3.heap.size (.pointer (some ⟨g6,0,none⟩)) w8:=hF 5
 have h7:AtU w3.heap.size (.pointer (some ⟨g7,0,none⟩)) w8:=hF 6
 have h67:g7≠g6:=fun e=>(hA 5 (by simp) g6 rfl).2 6 (by simp) (by decide) (by rw[e];rfl)
 have D08:=D0.out.below hb8 D0.out.lt
 have D18:=D1.out.below hb8 D1.out.lt
 have B8:=HB.out.trans (hb8.mono HB.out.size)
 obtain⟨_,e6,l6,b6⟩:=h6
 obtain⟨_,e7,l7,b7⟩:=h7
 injection e6 with e6
 injection e6 with e6
 injection e6 with e6 _ _
 injection e7 with e7
 injection e7 with e7
 injection e7 with e7 _ _
 subst e6 e7
 have hs3:=Hs.out
 obtain⟨B9,p6,p7,p0,p1⟩:=us_stored B8 (by omega) (by omega) h67 b6 b7 D08 D18 (.int .u64 ((an.natAbs*bd.natAbs / 18446744073709551616:Nat):Int)) (.int .u64 ((an.natAbs*bd.natAbs % 18446744073709551616:Nat):Int)) (.int .u64 ((bn.natAbs*ad.natAbs / 18446744073709551616:Nat):Int)) (.int .u64 ((bn.natAbs*ad.natAbs % 18446744073709551616:Nat):Int)) rfl
 have HN':Hid (0≤an→(an*bd<bn*ad↔an.natAbs*bd.natAbs<bn.natAbs*ad.natAbs)∧(bn*ad<an*bd↔bn.natAbs*ad.natAbs<an.natAbs*bd.natAbs)):=HN.out
 have f60:=b6.frozen 0
 have f61:=b6.frozen 1
 have b7x:=(b7.far (p:=⟨g6,0,none⟩) h67 (.int .u64 ((an.natAbs*bd.natAbs / 18446744073709551616:Nat):Int))).far (p:=⟨g6,1,none⟩) h67 (.int .u64 ((an.natAbs*bd.natAbs % 18446744073709551616:Nat):Int))
 have b7y:=b7x.set_ 0 (.int .u64 ((bn.natAbs*ad.natAbs / 18446744073709551616:Nat):Int))
 have f70:=b7x.frozen 0
 have f71:=b7y.frozen 1
 have b70:=b7x.cell 0
 have b71:=b7y.cell 1
 have q60:=p6.cell 0
 have q61:=p6.cell 1
 have q70:=p7.cell 0
 have q71:=p7.cell 1
 have q00:=p0.cell 0
 have q10:=p1.cell 0
 have b60:=b6.cell 0
 have b61:=b6.cell 1
 simp only[zs1,zs2] at b71
 simp only[zq1,zq2,zq3] at q60 q61 q70 q71 q00 q10 b60 b61 b70 b71
 generalize an.natAbs*bd.natAbs=m at *
 generalize bn.natAbs*ad.natAbs=n at *
 have hL1:=fun W=>refLess m n W
 have hL2:=fun W=>refLess n m W
 have HE1:Hid (m=n→((m / 18446744073709551616:Nat):Int)=((n / 18446744073709551616:Nat):Int)∧((m % 18446744073709551616:Nat):Int)=((n % 18446744073709551616:Nat):Int)):=fun h=>by subst h;exact⟨rfl,rfl⟩
 have HE2:Hid (m≠n→(((m / 18446744073709551616:Nat):Int)==((n / 18446744073709551616:Nat):Int))=false∨(((m % 18446744073709551616:Nat):Int)==((n % 18446744073709551616:Nat):Int))=false):=fun h=>by
  by_cases h1:m / 18446744073709551616=n / 18446744073709551616
  ·refine .inr (beq_eq_false_iff_ne.2 fun h2=>h ?_)
   have e1:=Nat.div_add_mod m 18446744073709551616
   have e2:=Nat.div_add_mod n 18446744073709551616
   rw[h1] at e1
   omega
  exact .inl (beq_eq_false_iff_ne.2 fun h2=>h1 (by omega))
 unfold wideV at *
 generalize ((m / 18446744073709551616:Nat):Int)=mh at *
 generalize ((m % 18446744073709551616:Nat):Int)=ml at *
 generalize ((n / 18446744073709551616:Nat):Int)=nh at *
 generalize ((n % 18446744073709551616:Nat):Int)=nl at *
 have P6:=zh p6
 have P7:=zh p7
 have B9:=zh B9
 clear b7x b7y HN HSa HSb HDa HDb HP1 HP2 h67 hs3 Hs l6 l7 b6 b7 p6 p7 p0 p1 B8 D08 D18 hA hF hb8 HB D0 D1 u0 u1 u2 u3
 by_cases c0:an<0
 ·have hcr:=HG.out c0
  have d0:decide (an<0)=true:=yD c0
  subst hcr
  clear c0 HG HN' HV hL2
  go_wp2_with fail
  go_ret
  exact⟨rfl,B9.out⟩
 have d0:decide (an<0)=false:=yC c0
 have hN:=HN'.out (by omega)
 have HV2:Hid (cr=if m<n then -1 else if n<m then 1 else 0):=by
  unfold Hid
  rw[HV.out]
  simp only[hN.1,hN.2]
 have d1:decide (0≤an)=true:=yD (by omega)
 have Q10:=zh q00
 by_cases hmn:m=n
 ·obtain⟨rfl,rfl⟩:=HE1.out hmn
  have hcr:cr=0:=by rw[HV2.out,hmn,if_neg (Nat.lt_irrefl _),if_neg (Nat.lt_irrefl _)]
  subst hcr
  clear hmn c0 HE1 HE2 HG HN' HV HV2 hN hL2 hL1
  go_wp2_with fail
  go_ret
  exact⟨rfl,B9.out⟩
 have hcs:=HE2.out hmn
 have hL1':∀ W,Calls Tryz.prog 138 #[.agg #[.int .u64 mh,.int .u64 ml],.agg #[.int .u64 nh,.int .u64 nl]] W fun e w'=>∃ v,e = .returned v∧Below W.heap.size W w'∧(gV (.bool (decide (m<n)))).σ v∧(gV (.bool (decide (m<n)))).φ v w':=fun W=>(hL1 W).mono fun _ _ ⟨he,hb⟩=>⟨_,he,hb,rfl,trivial⟩
 have hcr:Hid (cr=if decide (m<n) then -1 else 1):=by
  unfold Hid
  rw[HV2.out]
  by_cases h1:m<n
  ·rw[if_pos h1,yD h1];rfl
  rw[if_neg h1,if_pos (by omega),yC h1];rfl
 have Hmn:=zh hmn
 generalize decide (m<n)=lt at *
 clear hmn c0 HE1 HE2 HG HN' HV HV2 hN hL2 hL1
 have HLs:=zh hL1'
 clear hL1'
 rcases hcs with e1 | e1
 all_goals
  go_wp2_with (exact Go.WalkKit.wp_stop)
  have u1:=YE q60
  have u2:=YE q61
  have u3:=YE q70
  have u4:=YE q71
  have u5:=YE q00
  clear q60 q61 q70 q71 q00 q10 b60 b61 b70 b71 f60 f61 f70 f71
  refine wp_region_grow 6 (fun jx=>if jx=2 then some (gV (.bool lt)) else none) (by kernel_rfl) (by kernel_rfl) ?_
  simp only[zt1,zt2,zt3,zt4]
  refine wpG_quiet 2 (by kernel_rfl) (by rfl) (by decide) ?_
  simp only[zt1,zt2,zt3,zt4]
  repeat (go_big_quiet_step (fail))
  refine YB ?_
  refine wpG_call rfl rfl (fun w1 _ _=>⟨138,#[.agg #[.int .u64 mh,.int .u64 ml],.agg #[.int .u64 nh,.int .u64 nl]],by go_simp,HLs.out w1⟩) ?_
  rintro _ rfl
  simp only[Act.put,zs1,zs2,zs3]
  refine wpG_quiet 3 (by kernel_rfl) (by rfl) (by decide) ?_
  simp only[zt1,zt2,zt3,zt4]
  repeat (go_big_quiet_step (fail))
  refine YB ?_
  refine Zc ?_
  intro w10 hb10 _
  have hbz:=B9.out.trans (hb10.mono B9.out.size)
  clear hb10 u1 u2 u3 u4 u5
  cases lt
  case true=>
   have hc2:cr = -1:=by rw[hcr.out];rfl
   subst hc2
   go_wp2_with fail
   go_ret
   exact⟨rfl,hbz⟩
  have hc2:cr=1:=by rw[hcr.out];rfl
  subst hc2
  go_wp2_with fail
  go_ret
  exact⟨rfl,hbz⟩
theorem addW_q {a b:FrT} {s1 s2 neg:Bool} {X Y D N:Nat} (ha:frGood a=true) (hb:frGood b=true) (ds1:decide (a.num < 0)=s1) (ds2:decide (b.num < 0)=s2) (hX:a.num.natAbs * b.den.natAbs=X) (hY:b.num.natAbs * a.den.natAbs=Y) (hD:a.den.natAbs * b.den.natAbs=D)
  (hn:neg=addNeg s1 s2 X Y) (hN:N=addNum s1 s2 X Y):fracV (qOf a+qOf b)=signV neg (N / N.gcd D) (D / N.gcd D):=by
 obtain⟨a1,a2,a3,a4⟩:=good_bd ha
 obtain⟨b1,b2,b3,b4⟩:=good_bd hb
 refine made_q (by rw[← hD];exact Nat.mul_pos (by omega) (by omega)) ?_
 unfold qOf
 rw[Rat.mkRat_add_mkRat _ _ (by omega) (by omega),hD]
 congr 1
 have eX:(X:Int)=(a.num.natAbs:Int)*b.den:=by rw[← hX,Int.natCast_mul];congr 1;omega
 have eY:(Y:Int)=(b.num.natAbs:Int)*a.den:=by rw[← hY,Int.natCast_mul];congr 1;omega
 have e1:((b.den.natAbs:Nat):Int)=b.den:=by omega
 have e2:((a.den.natAbs:Nat):Int)=a.den:=by omega
 rw[e1,e2,hn,hN]
 unfold addNeg addNum
 subst ds1 ds2
 by_cases c1:a.num<0 <;> by_cases c2:b.num<0
 ·have g1:(a.num.natAbs:Int) = -a.num:=by omega
  have g2:(b.num.natAbs:Int) = -b.num:=by omega
  rw[g1,Int.neg_mul] at eX
  rw[g2,Int.neg_mul] at eY
  simp only[c1,c2,decide_true,if_true]
  omega
 ·have g1:(a.num.natAbs:Int) = -a.num:=by omega
  have g2:(b.num.natAbs:Int)=b.num:=by omega
  rw[g1,Int.neg_mul] at eX
  rw[g2] at eY
  simp only[c1,c2,decide_true,decide_false,Bool.true_eq_false,if_false]
  by_cases c:X<Y
  ·simp only[c,if_true,Bool.not_true,Bool.false_eq_true,if_false]
   omega
  simp only[c,if_false,if_true]
  omega
 ·have g1:(a.num.natAbs:Int)=a.num:=by omega
  have g2:(b.num.natAbs:Int) = -b.num:=by omega
  rw[g1] at eX
  rw[g2,Int.neg_mul] at eY
  simp only[c1,c2,decide_true,decide_false,Bool.false_eq_true,if_false]
  by_cases c:X<Y
  ·simp only[c,if_true,Bool.not_false]
   omega
  simp only[c,if_false,Bool.false_eq_true]
  omega
 have g1:(a.num.natAbs:Int)=a.num:=by omega
 have g2:(b.num.natAbs:Int)=b.num:=by omega
 rw[g1] at eX
 rw[g2] at eY
 simp only[c1,c2,decide_false,if_true,Bool.false_eq_true,if_false]
 omega
theorem ret_gV {f:FuncId} {args:Array Value} {u:Value} {w:World} (h:Calls Tryz.prog f args w fun e w'=>e = .returned u∧Below w.heap.size w w'):Calls Tryz.prog f args w fun e w'=>∃ v,e = .returned v∧Below w.heap.size w w'∧(gV u).σ v∧(gV u).φ v w' :=
 h.mono fun _ _ hp=>⟨_,hp.1,hp.2,rfl,trivial⟩
theorem nat_120 {x y:Nat} (hx:x≤1152921504606846976) (hy:y≤1152921504606846976):x*y≤1329227995784915872903807060280344576:=yH (Nat.mul_le_mul hx hy) (by decide)
theorem rfAddW (a b:FrT) (w:World) (ha:frGood a=true) (hb:frGood b=true) :
  Calls Tryz.prog 112 #[a.val,b.val] w fun e w'=>e = .returned (fracV (qOf a+qOf b))∧Below w.heap.size w w':=by
 obtain⟨a1,a2,a3,a4⟩:=good_bd ha
 obtain⟨b1,b2,b3,b4⟩:=good_bd hb
 obtain⟨s1,ds1⟩:∃ s1,decide (a.num<0)=s1:=⟨_,rfl⟩
 obtain⟨s2,ds2⟩:∃ s2,decide (b.num<0)=s2:=⟨_,rfl⟩
 have HSan:=zh fun W=>usize_g (n:=a.num) W (by omega) (by omega)
 have HSad:=zh fun W=>usize_g (n:=a.den) W (by omega) (by omega)
 have HSbn:=zh fun W=>usize_g (n:=b.num) W (by omega) (by omega)
 have HSbd:=zh fun W=>usize_g (n:=b.den) W (by omega) (by omega)
 have HPX:=zh fun W=>umul_g (x:=a.num.natAbs) (y:=b.den.natAbs) W (by omega) (by omega)
 have HPY:=zh fun W=>umul_g (x:=b.num.natAbs) (y:=a.den.natAbs) W (by omega) (by omega)
 have HPD:=zh fun W=>umul_g (x:=a.den.natAbs) (y:=b.den.natAbs) W (by omega) (by omega)
 have bX:a.num.natAbs*b.den.natAbs≤1329227995784915872903807060280344576:=nat_120 (by omega) (by omega)
 have bY:b.num.natAbs*a.den.natAbs≤1329227995784915872903807060280344576:=nat_120 (by omega) (by omega)
 have bD:a.den.natAbs*b.den.natAbs≤1329227995784915872903807060280344576:=nat_120 (by omega) (by omega)
 have bD0:0<a.den.natAbs*b.den.natAbs:=Nat.mul_pos (by omega) (by omega)
 obtain⟨X,hX⟩:∃ X,a.num.natAbs*b.den.natAbs=X:=⟨_,rfl⟩
 obtain⟨Y,hY⟩:∃ Y,b.num.natAbs*a.den.natAbs=Y:=⟨_,rfl⟩
 obtain⟨D,hD⟩:∃ D,a.den.natAbs*b.den.natAbs=D:=⟨_,rfl⟩
 have HQ:=zh fun neg N=>@addW_q a b s1 s2 neg X Y D N ha hb ds1 ds2 hX hY hD
 rw[hX] at HPX bX
 rw[hY] at HPY bY
 rw[hD] at HPD bD bD0
 have HBd:Hid (X≤1329227995784915872903807060280344576∧Y≤1329227995784915872903807060280344576∧0<D∧D<2 ^ 127):=⟨bX,bY,bD0,Nat.lt_of_le_of_lt bD (by decide)⟩
 clear ha hb a1 a2 a3 a4 b1 b2 b3 b4 hX hY hD bX bY bD bD0
 generalize fracV (qOf a+qOf b)=fv at *
 obtain⟨an,ad⟩:=a
 obtain⟨bn,bd⟩:=b
 simp only at *
 have D0:=((Blk.new w 23 #[.int .i64 an,.int .i64 ad]).alloc (.cells #[.int .i64 bn,.int .i64 bd] 23)).alloc (.cells #[.int .i64 0,.int .i64 0] 23)
 have D1:=(Blk.new (w.alloc (.cells #[.int .i64 an,.int .i64 ad] 23)) 23 #[.int .i64 bn,.int .i64 bd]).alloc (.cells #[.int .i64 0,.int .i64 0] 23)
 have D2:=Blk.new ((w.alloc (.cells #[.int .i64 an,.int .i64 ad] 23)).alloc (.cells #[.int .i64 bn,.int .i64 bd] 23)) 23 #[.int .i64 0,.int .i64 0]
 have hB:=below3W w (.cells #[.int .i64 an,.int .i64 ad] 23) (.cells #[.int .i64 bn,.int .i64 bd] 23) (.cells #[.int .i64 0,.int .i64 0] 23)
 simp only[World.size_alloc] at D1 D2
 have D0:=zh D0
 have D1:=zh D1
 have D2:=zh D2
 have HB:=zh hB
 clear hB
 go_enter Tryz.func112,Tryz.ntmps112
 go_upto_region 1 with fail
 generalize ((w.alloc (.cells #[.int .i64 an,.int .i64 ad] 23)).alloc (.cells #[.int .i64 bn,.int .i64 bd] 23)).alloc (.cells #[.int .i64 0,.int .i64 0] 23)=v0 at *
 have y0:=D0.out.cell 0
 have y1:=D0.out.cell 1
 have y2:=D1.out.cell 0
 have y3:=D1.out.cell 1
 simp only[zq1,zq2,zq3] at y0 y1 y2 y3
 have u0:=YE y0
 have u1:=YE y1
 have u2:=YE y2
 have u3:=YE y3
 clear y0 y1 y2 y3
 refine wp_region_grow 8 (fun jx=>if jx=2 then some (gV (.int .u64 (an.natAbs:Nat))) else if jx=5 then some (gV (.int .u64 (bd.natAbs:Nat))) else if jx=6 then some (gV (uW X)) else if jx=7 then some (gU v0.heap.size) else none) (by kernel_rfl) (by kernel_rfl) ?_
 simp only[zt1,zt2,zt3,zt4]
 refine wpG_quiet 2 (by kernel_rfl) (by rfl) (by decide) ?_
 simp only[zt1,zt2,zt3,zt4]
 repeat (go_big_quiet_step (fail))
 refine YB ?_
 refine wpG_call rfl rfl (fun w1 _ _=>⟨95,#[.int .i64 an],by go_simp,HSan.out w1⟩) ?_
 rintro _ rfl
 simp only[Act.put,zs1,zs2,zs3]
 refine wpG_quiet 2 (by kernel_rfl) (by rfl) (by decide) ?_
 simp only[zt1,zt2,zt3,zt4]
 repeat (go_big_quiet_step (fail))
 refine YB ?_
 refine wpG_call rfl rfl (fun w1 _ _=>⟨95,#[.int .i64 bd],by go_simp,HSbd.out w1⟩) ?_
 rintro _ rfl
 simp only[Act.put,zs1,zs2,zs3]
 refine wpG_call rfl rfl (fun w1 _ _=>⟨98,#[.int .u64 (an.natAbs:Nat),.int .u64 (bd.natAbs:Nat)],by go_simp,HPX.out w1⟩) ?_
 rintro _ rfl
 simp only[Act.put,zs1,zs2,zs3]
 refine wpG_new rfl rfl (fun w1 hb1 _=>gU_new hb1.size (by go_simp)) ?_
 rintro _ ⟨gX,rfl⟩
 simp only[Act.put,zs1,zs2,zs3]
 refine Zc ?_
 intro wX hbX hF
 have h6:AtU v0.heap.size (.pointer (some ⟨gX,0,none⟩)) wX:=hF 6
 obtain⟨_,e6,l6,b6⟩:=h6
 injection e6 with e6
 injection e6 with e6
 injection e6 with e6 _ _
 subst e6
 have B6:=zh b6
 have f60:=b6.frozen 0
 have f61:=(b6.set_ 0 (.int .u64 (hW X))).frozen 1
 have z60:=b6.cell 0
 have z61:=(b6.set_ 0 (.int .u64 (hW X))).cell 1
 simp only[zs1,zs2,zq1,zq2,zq3] at z60 z61
 clear b6 hF u0 u1 u2 u3
 go_upto_region 2 with fail
 clear f60 f61 z60 z61
 have PX:=zh ((B6.out.set_ 0 (.int .u64 (hW X))).set_ 1 (.int .u64 (lW X)))
 have D0:=zh (((D0.out.below hbX D0.out.lt).far (p:=⟨gX,0,none⟩) (Nat.ne_of_lt (yK D0.out.lt l6)) (.int .u64 (hW X))).far (p:=⟨gX,1,none⟩) (Nat.ne_of_lt (yK D0.out.lt l6)) (.int .u64 (lW X)))
 have D1:=zh (((D1.out.below hbX D1.out.lt).far (p:=⟨gX,0,none⟩) (Nat.ne_of_lt (yK D1.out.lt l6)) (.int .u64 (hW X))).far (p:=⟨gX,1,none⟩) (Nat.ne_of_lt (yK D1.out.lt l6)) (.int .u64 (lW X)))
 have D2:=zh (((D2.out.below hbX D2.out.lt).far (p:=⟨gX,0,none⟩) (Nat.ne_of_lt (yK D2.out.lt l6)) (.int .u64 (hW X))).far (p:=⟨gX,1,none⟩) (Nat.ne_of_lt (yK D2.out.lt l6)) (.int .u64 (lW X)))
 have HB:=zh (((HB.out.trans (hbX.mono HB.out.size)).setCell (p:=⟨gX,0,none⟩) (yH HB.out.size l6) (.int .u64 (hW X))).setCell (p:=⟨gX,1,none⟩) (yH HB.out.size l6) (.int .u64 (lW X)))
 clear l6 hbX B6
 simp only[zs1,zs2,zs3,] at PX
 generalize (wX.setCell ⟨gX,0,none⟩ (.int .u64 (hW X))).setCell ⟨gX,1,none⟩ (.int .u64 (lW X))=vX at *
 have y0:=D0.out.cell 0
 have y1:=D0.out.cell 1
 have y2:=D1.out.cell 0
 have y3:=D1.out.cell 1
 simp only[zq1,zq2,zq3] at y0 y1 y2 y3
 have u0:=YE y0
 have u1:=YE y1
 have u2:=YE y2
 have u3:=YE y3
 clear y0 y1 y2 y3
 refine wp_region_grow 8 (fun jx=>if jx=2 then some (gV (.int .u64 (bn.natAbs:Nat))) else if jx=5 then some (gV (.int .u64 (ad.natAbs:Nat))) else if jx=6 then some (gV (uW Y)) else if jx=7 then some (gU vX.heap.size) else none) (by kernel_rfl) (by kernel_rfl) ?_
 simp only[zt1,zt2,zt3,zt4]
 refine wpG_quiet 2 (by kernel_rfl) (by rfl) (by decide) ?_
 simp only[zt1,zt2,zt3,zt4]
 repeat (go_big_quiet_step (fail))
 refine YB ?_
 refine wpG_call rfl rfl (fun w1 _ _=>⟨95,#[.int .i64 bn],by go_simp,HSbn.out w1⟩) ?_
 rintro _ rfl
 simp only[Act.put,zs1,zs2,zs3]
 refine wpG_quiet 2 (by kernel_rfl) (by rfl) (by decide) ?_
 simp only[zt1,zt2,zt3,zt4]
 repeat (go_big_quiet_step (fail))
 refine YB ?_
 refine wpG_call rfl rfl (fun w1 _ _=>⟨95,#[.int .i64 ad],by go_simp,HSad.out w1⟩) ?_
 rintro _ rfl
 simp only[Act.put,zs1,zs2,zs3]
 refine wpG_call rfl rfl (fun w1 _ _=>⟨98,#[.int .u64 (bn.natAbs:Nat),.int .u64 (ad.natAbs:Nat)],by go_simp,HPY.out w1⟩) ?_
 rintro _ rfl
 simp only[Act.put,zs1,zs2,zs3]
 refine wpG_new rfl rfl (fun w1 hb1 _=>gU_new hb1.size (by go_simp)) ?_
 rintro _ ⟨gY,rfl⟩
 simp only[Act.put,zs1,zs2,zs3]
 refine Zc ?_
 intro wY hbY hF
 have h6:AtU vX.heap.size (.pointer (some ⟨gY,0,none⟩)) wY:=hF 7
 obtain⟨_,e6,l6,b6⟩:=h6
 injection e6 with e6
 injection e6 with e6
 injection e6 with e6 _ _
 subst e6
 have B6:=zh b6
 have f60:=b6.frozen 0
 have f61:=(b6.set_ 0 (.int .u64 (hW Y))).frozen 1
 have z60:=b6.cell 0
 have z61:=(b6.set_ 0 (.int .u64 (hW Y))).cell 1
 simp only[zs1,zs2,zq1,zq2,zq3] at z60 z61
 clear b6 hF u0 u1 u2 u3
 go_upto_region 3 with fail
 clear f60 f61 z60 z61
 have PY:=zh ((B6.out.set_ 0 (.int .u64 (hW Y))).set_ 1 (.int .u64 (lW Y)))
 have D0:=zh (((D0.out.below hbY D0.out.lt).far (p:=⟨gY,0,none⟩) (Nat.ne_of_lt (yK D0.out.lt l6)) (.int .u64 (hW Y))).far (p:=⟨gY,1,none⟩) (Nat.ne_of_lt (yK D0.out.lt l6)) (.int .u64 (lW Y)))
 have D1:=zh (((D1.out.below hbY D1.out.lt).far (p:=⟨gY,0,none⟩) (Nat.ne_of_lt (yK D1.out.lt l6)) (.int .u64 (hW Y))).far (p:=⟨gY,1,none⟩) (Nat.ne_of_lt (yK D1.out.lt l6)) (.int .u64 (lW Y)))
 have D2:=zh (((D2.out.below hbY D2.out.lt).far (p:=⟨gY,0,none⟩) (Nat.ne_of_lt (yK D2.out.lt l6)) (.int .u64 (hW Y))).far (p:=⟨gY,1,none⟩) (Nat.ne_of_lt (yK D2.out.lt l6)) (.int .u64 (lW Y)))
 have PX:=zh (((PX.out.below hbY PX.out.lt).far (p:=⟨gY,0,none⟩) (Nat.ne_of_lt (yK PX.out.lt l6)) (.int .u64 (hW Y))).far (p:=⟨gY,1,none⟩) (Nat.ne_of_lt (yK PX.out.lt l6)) (.int .u64 (lW Y)))
 have HB:=zh (((HB.out.trans (hbY.mono HB.out.size)).setCell (p:=⟨gY,0,none⟩) (yH HB.out.size l6) (.int .u64 (hW Y))).setCell (p:=⟨gY,1,none⟩) (yH HB.out.size l6) (.int .u64 (lW Y)))
 clear l6 hbY B6
 simp only[zs1,zs2,zs3,] at PY
 generalize (wY.setCell ⟨gY,0,none⟩ (.int .u64 (hW Y))).setCell ⟨gY,1,none⟩ (.int .u64 (lW Y))=vY at *
 have y0:=D0.out.cell 0
 have y1:=D0.out.cell 1
 have y2:=D1.out.cell 0
 have y3:=D1.out.cell 1
 simp only[zq1,zq2,zq3] at y0 y1 y2 y3
 have u0:=YE y0
 have u1:=YE y1
 have u2:=YE y2
 have u3:=YE y3
 clear y0 y1 y2 y3
 refine wp_region_grow 8 (fun jx=>if jx=2 then some (gV (.int .u64 (ad.natAbs:Nat))) else if jx=5 then some (gV (.int .u64 (bd.natAbs:Nat))) else if jx=6 then some (gV (uW D)) else if jx=7 then some (gU vY.heap.size) else none) (by kernel_rfl) (by kernel_rfl) ?_
 simp only[zt1,zt2,zt3,zt4]
 refine wpG_quiet 2 (by kernel_rfl) (by rfl) (by decide) ?_
 simp only[zt1,zt2,zt3,zt4]
 repeat (go_big_quiet_step (fail))
 refine YB ?_
 refine wpG_call rfl rfl (fun w1 _ _=>⟨95,#[.int .i64 ad],by go_simp,HSad.out w1⟩) ?_
 rintro _ rfl
 simp only[Act.put,zs1,zs2,zs3]
 refine wpG_quiet 2 (by kernel_rfl) (by rfl) (by decide) ?_
 simp only[zt1,zt2,zt3,zt4]
 repeat (go_big_quiet_step (fail))
 refine YB ?_
 refine wpG_call rfl rfl (fun w1 _ _=>⟨95,#[.int .i64 bd],by go_simp,HSbd.out w1⟩) ?_
 rintro _ rfl
 simp only[Act.put,zs1,zs2,zs3]
 refine wpG_call rfl rfl (fun w1 _ _=>⟨98,#[.int .u64 (ad.natAbs:Nat),.int .u64 (bd.natAbs:Nat)],by go_simp,HPD.out w1⟩) ?_
 rintro _ rfl
 simp only[Act.put,zs1,zs2,zs3]
 refine wpG_new rfl rfl (fun w1 hb1 _=>gU_new hb1.size (by go_simp)) ?_
 rintro _ ⟨gD,rfl⟩
 simp only[Act.put,zs1,zs2,zs3]
 refine Zc ?_
 intro wD hbD hF
 have h6:AtU vY.heap.size (.pointer (some ⟨gD,0,none⟩)) wD:=hF 8
 obtain⟨_,e6,l6,b6⟩:=h6
 injection e6 with e6
 injection e6 with e6
 injection e6 with e6 _ _
 subst e6
 have B6:=zh b6
 have f60:=b6.frozen 0
 have f61:=(b6.set_ 0 (.int .u64 (hW D))).frozen 1
 have z60:=b6.cell 0
 have z61:=(b6.set_ 0 (.int .u64 (hW D))).cell 1
 simp only[zs1,zs2,zq1,zq2,zq3] at z60 z61
 clear b6 hF u0 u1 u2 u3
 go_upto_region 4 with fail
 clear f60 f61 z60 z61
 have PD:=zh ((B6.out.set_ 0 (.int .u64 (hW D))).set_ 1 (.int .u64 (lW D)))
 have D0:=zh (((D0.out.below hbD D0.out.lt).far (p:=⟨gD,0,none⟩) (Nat.ne_of_lt (yK D0.out.lt l6)) (.int .u64 (hW D))).far (p:=⟨gD,1,none⟩) (Nat.ne_of_lt (yK D0.out.lt l6)) (.int .u64 (lW D)))
 have D1:=zh (((D1.out.below hbD D1.out.lt).far (p:=⟨gD,0,none⟩) (Nat.ne_of_lt (yK D1.out.lt l6)) (.int .u64 (hW D))).far (p:=⟨gD,1,none⟩) (Nat.ne_of_lt (yK D1.out.lt l6)) (.int .u64 (lW D)))
 have D2:=zh (((D2.out.below hbD D2.out.lt).far (p:=⟨gD,0,none⟩) (Nat.ne_of_lt (yK D2.out.lt l6)) (.int .u64 (hW D))).far (p:=⟨gD,1,none⟩) (Nat.ne_of_lt (yK D2.out.lt l6)) (.int .u64 (lW D)))
 have PX:=zh (((PX.out.below hbD PX.out.lt).far (p:=⟨gD,0,none⟩) (Nat.ne_of_lt (yK PX.out.lt l6)) (.int .u64 (hW D))).far (p:=⟨gD,1,none⟩) (Nat.ne_of_lt (yK PX.out.lt l6)) (.int .u64 (lW D)))
 have PY:=zh (((PY.out.below hbD PY.out.lt).far (p:=⟨gD,0,none⟩) (Nat.ne_of_lt (yK PY.out.lt l6)) (.int .u64 (hW D))).far (p:=⟨gD,1,none⟩) (Nat.ne_of_lt (yK PY.out.lt l6)) (.int .u64 (lW D)))
 have HB:=zh (((HB.out.trans (hbD.mono HB.out.size)).setCell (p:=⟨gD,0,none⟩) (yH HB.out.size l6) (.int .u64 (hW D))).setCell (p:=⟨gD,1,none⟩) (yH HB.out.size l6) (.int .u64 (lW D)))
 clear l6 hbD B6
 simp only[zs1,zs2,zs3,] at PD
 generalize (wD.setCell ⟨gD,0,none⟩ (.int .u64 (hW D))).setCell ⟨gD,1,none⟩ (.int .u64 (lW D))=vD at *
 clear HSan HSad HSbn HSbd HPX HPY HPD
 have y0:=D0.out.cell 0
 have y2:=D1.out.cell 0
 simp only[zq1,zq3] at y0 y2
 cases s1
 case true=>
  cases s2
  case true=>
   go_upto_region 5 with fail
   clear y0 y2
   have y0:=PX.out.cell 0
   have y1:=PX.out.cell 1
   have y2:=PY.out.cell 0
   have y3:=PY.out.cell 1
   have y4:=PD.out.cell 0
   have y5:=PD.out.cell 1
   have y6:=D0.out.cell 0
   simp only[zq1,zq2,zq3] at y0 y1 y2 y3 y4 y5 y6
   have u0:=YE y0
   have u1:=YE y1
   have u2:=YE y2
   have u3:=YE y3
   have u4:=YE y4
   have u5:=YE y5
   have u6:=YE y6
   clear y0 y1 y2 y3 y4 y5 y6
   have hq:=HQ.out true (X+Y) (by unfold addNeg;rfl) (by unfold addNum;rfl)
   obtain⟨fx,fy,fz,hv⟩:=signW_form true ((X+Y) / (X+Y).gcd D) (D / (X+Y).gcd D)
   have HMd:=zh fun W=>ret_gV (rfMadeW (X+Y) D true W (by have:=HBd.out;omega) HBd.out.2.2.1 HBd.out.2.2.2)
   rw[hv] at hq HMd
   have HCl:=zh fun W=>ret_gV (rfPlusW X Y W (by have:=HBd.out;omega))
   have HQe:=zh hq
   clear hv hq HQ HBd
   generalize X+Y=N at *
   refine wp_region_grow 10 (fun jx=>if jx=2 then some (gV (uW N)) else if jx=7 then some (gV (.tuple #[.agg #[.int .i64 fx,.int .i64 fy],.int .i64 fz])) else none) (by kernel_rfl) (by kernel_rfl) ?_
   simp only[zt1,zt2,zt3,zt4]
   refine wpG_quiet 2 (by kernel_rfl) (by rfl) (by decide) ?_
   simp only[zt1,zt2,zt3,zt4]
   repeat (go_big_quiet_step (fail))
   refine YB ?_
   refine wpG_call rfl rfl (fun w1 _ _=>⟨140,#[uW X,uW Y],by go_simp,HCl.out w1⟩) ?_
   rintro _ rfl
   simp only[Act.put,zs1,zs2,zs3]
   refine wpG_quiet 4 (by kernel_rfl) (by rfl) (by decide) ?_
   simp only[zt1,zt2,zt3,zt4]
   repeat (go_big_quiet_step (fail))
   refine YB ?_
   refine wpG_call rfl rfl (fun w1 _ _=>⟨97,#[uW N,.bool true,uW D],by go_simp,HMd.out w1⟩) ?_
   rintro _ rfl
   simp only[Act.put,zs1,zs2,zs3]
   refine wpG_quiet 2 (by kernel_rfl) (by rfl) (by decide) ?_
   simp only[zt1,zt2,zt3,zt4]
   repeat (go_big_quiet_step (fail))
   refine YB ?_
   refine Zc ?_
   intro w9 hb9 hF
   have D29:=D2.out.below hb9 D2.out.lt
   have HB9:=HB.out.trans (hb9.mono HB.out.size)
   have q0:=D29.cell 0
   have f0:=D29.frozen 0
   have E1:=(D29.set_ 0 (.int .i64 fx))
   have f1:=E1.frozen 1
   have E2:=E1.set_ 1 (.int .i64 fy)
   have p0:=E2.cell 0
   have p1:=E2.cell 1
   have r1:=E1.cell 1
   simp only[zs1,zs2,zs3,] at p0 p1 r1
   simp only[zq1,zq2,zq3] at q0 p0 p1 r1
   have HBz:=zh ((HB9.setCell (p:=⟨w.heap.size+1+1,0,none⟩) (by show w.heap.size≤w.heap.size+1+1;omega) (.int .i64 fx)).setCell (p:=⟨w.heap.size+1+1,1,none⟩) (by show w.heap.size≤w.heap.size+1+1;omega) (.int .i64 fy))
   clear D29 HB9 E1 E2 hF u0 u1 u2 u3 u4 u5 u6 HMd HCl
   go_wp2_with fail
   refine YC (v:=.tuple #[.agg #[.int .i64 fx,.int .i64 fy],.int .i64 fz]) (by simp[results,Tryz.results112,go_sem,p0,p1]) rfl ?_
   exact⟨by rw[HQe.out],HBz.out⟩
  go_upto_region 6 with fail
  clear y0 y2
  have y0:=PX.out.cell 0
  have y1:=PX.out.cell 1
  have y2:=PY.out.cell 0
  have y3:=PY.out.cell 1
  simp only[zq1,zq2,zq3] at y0 y1 y2 y3
  go_wp2_with fail
  refine (rfLessW X Y _).mono ?_
  rintro e w7 ⟨rfl,hb7⟩
  clear y0 y1 y2 y3
  have D0:=zh (D0.out.below hb7 D0.out.lt)
  have D1:=zh (D1.out.below hb7 D1.out.lt)
  have D2:=zh (D2.out.below hb7 D2.out.lt)
  have PX:=zh (PX.out.below hb7 PX.out.lt)
  have PY:=zh (PY.out.below hb7 PY.out.lt)
  have PD:=zh (PD.out.below hb7 PD.out.lt)
  have HB:=zh (HB.out.trans (hb7.mono HB.out.size))
  clear hb7
  by_cases c:X<Y
  ·rw[yD c]
   go_upto_region 7 with fail
   have y0:=PY.out.cell 0
   have y1:=PY.out.cell 1
   have y2:=PX.out.cell 0
   have y3:=PX.out.cell 1
   have y4:=PD.out.cell 0
   have y5:=PD.out.cell 1
   have y6:=D1.out.cell 0
   simp only[zq1,zq2,zq3] at y0 y1 y2 y3 y4 y5 y6
   have u0:=YE y0
   have u1:=YE y1
   have u2:=YE y2
   have u3:=YE y3
   have u4:=YE y4
   have u5:=YE y5
   have u6:=YE y6
   clear y0 y1 y2 y3 y4 y5 y6
   have hq:=HQ.out false (Y-X) (by unfold addNeg;rw[if_neg (by decide),if_pos c];rfl) (by unfold addNum;rw[if_neg (by decide),if_pos c])
   obtain⟨fx,fy,fz,hv⟩:=signW_form false ((Y-X) / (Y-X).gcd D) (D / (Y-X).gcd D)
   have HMd:=zh fun W=>ret_gV (rfMadeW (Y-X) D false W (by have:=HBd.out;omega) HBd.out.2.2.1 HBd.out.2.2.2)
   rw[hv] at hq HMd
   have HCl:=zh fun W=>ret_gV (rfMinusW Y X W (by have:=HBd.out;omega) (YD c))
   have HQe:=zh hq
   clear hv hq HQ HBd
   generalize Y-X=N at *
   refine wp_region_grow 10 (fun jx=>if jx=2 then some (gV (uW N)) else if jx=7 then some (gV (.tuple #[.agg #[.int .i64 fx,.int .i64 fy],.int .i64 fz])) else none) (by kernel_rfl) (by kernel_rfl) ?_
   simp only[zt1,zt2,zt3,zt4]
   refine wpG_quiet 2 (by kernel_rfl) (by rfl) (by decide) ?_
   simp only[zt1,zt2,zt3,zt4]
   repeat (go_big_quiet_step (fail))
   refine YB ?_
   refine wpG_call rfl rfl (fun w1 _ _=>⟨139,#[uW Y,uW X],by go_simp,HCl.out w1⟩) ?_
   rintro _ rfl
   simp only[Act.put,zs1,zs2,zs3]
   refine wpG_quiet 4 (by kernel_rfl) (by rfl) (by decide) ?_
   simp only[zt1,zt2,zt3,zt4]
   repeat (go_big_quiet_step (fail))
   refine YB ?_
   refine wpG_call rfl rfl (fun w1 _ _=>⟨97,#[uW N,.bool false,uW D],by go_simp,HMd.out w1⟩) ?_
   rintro _ rfl
   simp only[Act.put,zs1,zs2,zs3]
   refine wpG_quiet 2 (by kernel_rfl) (by rfl) (by decide) ?_
   simp only[zt1,zt2,zt3,zt4]
   repeat (go_big_quiet_step (fail))
   refine YB ?_
   refine Zc ?_
   intro w9 hb9 hF
   have D29:=D2.out.below hb9 D2.out.lt
   have HB9:=HB.out.trans (hb9.mono HB.out.size)
   have q0:=D29.cell 0
   have f0:=D29.frozen 0
   have E1:=(D29.set_ 0 (.int .i64 fx))
   have f1:=E1.frozen 1
   have E2:=E1.set_ 1 (.int .i64 fy)
   have p0:=E2.cell 0
   have p1:=E2.cell 1
   have r1:=E1.cell 1
   simp only[zs1,zs2,zs3,] at p0 p1 r1
   simp only[zq1,zq2,zq3] at q0 p0 p1 r1
   have HBz:=zh ((HB9.setCell (p:=⟨w.heap.size+1+1,0,none⟩) (by show w.heap.size≤w.heap.size+1+1;omega) (.int .i64 fx)).setCell (p:=⟨w.heap.size+1+1,1,none⟩) (by show w.heap.size≤w.heap.size+1+1;omega) (.int .i64 fy))
   clear D29 HB9 E1 E2 hF u0 u1 u2 u3 u4 u5 u6 HMd HCl
   go_wp2_with fail
   refine YC (v:=.tuple #[.agg #[.int .i64 fx,.int .i64 fy],.int .i64 fz]) (by simp[results,Tryz.results112,go_sem,p0,p1]) rfl ?_
   exact⟨by rw[HQe.out],HBz.out⟩
  rw[yC c]
  go_upto_region 8 with fail
  have y0:=PX.out.cell 0
  have y1:=PX.out.cell 1
  have y2:=PY.out.cell 0
  have y3:=PY.out.cell 1
  have y4:=PD.out.cell 0
  have y5:=PD.out.cell 1
  have y6:=D0.out.cell 0
  simp only[zq1,zq2,zq3] at y0 y1 y2 y3 y4 y5 y6
  have u0:=YE y0
  have u1:=YE y1
  have u2:=YE y2
  have u3:=YE y3
  have u4:=YE y4
  have u5:=YE y5
  have u6:=YE y6
  clear y0 y1 y2 y3 y4 y5 y6
  have hq:=HQ.out true (X-Y) (by unfold addNeg;rw[if_neg (by decide),if_neg c]) (by unfold addNum;rw[if_neg (by decide),if_neg c])
  obtain⟨fx,fy,fz,hv⟩:=signW_form true ((X-Y) / (X-Y).gcd D) (D / (X-Y).gcd D)
  have HMd:=zh fun W=>ret_gV (rfMadeW (X-Y) D true W (by have:=HBd.out;omega) HBd.out.2.2.1 HBd.out.2.2.2)
  rw[hv] at hq HMd
  have HCl:=zh fun W=>ret_gV (rfMinusW X Y W (by have:=HBd.out;omega) (Nat.not_lt.1 c))
  have HQe:=zh hq
  clear hv hq HQ HBd
  generalize X-Y=N at *
  refine wp_region_grow 10 (fun jx=>if jx=2 then some (gV (uW N)) else if jx=7 then some (gV (.tuple #[.agg #[.int .i64 fx,.int .i64 fy],.int .i64 fz])) else none) (by kernel_rfl) (by kernel_rfl) ?_
  simp only[zt1,zt2,zt3,zt4]
  refine wpG_quiet 2 (by kernel_rfl) (by rfl) (by decide) ?_
  simp only[zt1,zt2,zt3,zt4]
  repeat (go_big_quiet_step (fail))
  refine YB ?_
  refine wpG_call rfl rfl (fun w1 _ _=>⟨139,#[uW X,uW Y],by go_simp,HCl.out w1⟩) ?_
  rintro _ rfl
  simp only[Act.put,zs1,zs2,zs3]
  refine wpG_quiet 4 (by kernel_rfl) (by rfl) (by decide) ?_
  simp only[zt1,zt2,zt3,zt4]
  repeat (go_big_quiet_step (fail))
  refine YB ?_
  refine wpG_call rfl rfl (fun w1 _ _=>⟨97,#[uW N,.bool true,uW D],by go_simp,HMd.out w1⟩) ?_
  rintro _ rfl
  simp only[Act.put,zs1,zs2,zs3]
  refine wpG_quiet 2 (by kernel_rfl) (by rfl) (by decide) ?_
  simp only[zt1,zt2,zt3,zt4]
  repeat (go_big_quiet_step (fail))
  refine YB ?_
  refine Zc ?_
  intro w9 hb9 hF
  have D29:=D2.out.below hb9 D2.out.lt
  have HB9:=HB.out.trans (hb9.mono HB.out.size)
  have q0:=D29.cell 0
  have f0:=D29.frozen 0
  have E1:=(D29.set_ 0 (.int .i64 fx))
  have f1:=E1.frozen 1
  have E2:=E1.set_ 1 (.int .i64 fy)
  have p0:=E2.cell 0
  have p1:=E2.cell 1
  have r1:=E1.cell 1
  simp only[zs1,zs2,zs3,] at p0 p1 r1
  simp only[zq1,zq2,zq3] at q0 p0 p1 r1
  have HBz:=zh ((HB9.setCell (p:=⟨w.heap.size+1+1,0,none⟩) (by show w.heap.size≤w.heap.size+1+1;omega) (.int .i64 fx)).setCell (p:=⟨w.heap.size+1+1,1,none⟩) (by show w.heap.size≤w.heap.size+1+1;omega) (.int .i64 fy))
  clear D29 HB9 E1 E2 hF u0 u1 u2 u3 u4 u5 u6 HMd HCl
  go_wp2_with fail
  refine YC (v:=.tuple #[.agg #[.int .i64 fx,.int .i64 fy],.int .i64 fz]) (by simp[results,Tryz.results112,go_sem,p0,p1]) rfl ?_
  exact⟨by rw[HQe.out],HBz.out⟩
 cases s2
 case true=>
  go_upto_region 6 with fail
  clear y0 y2
  have y0:=PX.out.cell 0
  have y1:=PX.out.cell 1
  have y2:=PY.out.cell 0
  have y3:=PY.out.cell 1
  simp only[zq1,zq2,zq3] at y0 y1 y2 y3
  go_wp2_with fail
  refine (rfLessW X Y _).mono ?_
  rintro e w7 ⟨rfl,hb7⟩
  clear y0 y1 y2 y3
  have D0:=zh (D0.out.below hb7 D0.out.lt)
  have D1:=zh (D1.out.below hb7 D1.out.lt)
  have D2:=zh (D2.out.below hb7 D2.out.lt)
  have PX:=zh (PX.out.below hb7 PX.out.lt)
  have PY:=zh (PY.out.below hb7 PY.out.lt)
  have PD:=zh (PD.out.below hb7 PD.out.lt)
  have HB:=zh (HB.out.trans (hb7.mono HB.out.size))
  clear hb7
  by_cases c:X<Y
  ·rw[yD c]
   go_upto_region 7 with fail
   have y0:=PY.out.cell 0
   have y1:=PY.out.cell 1
   have y2:=PX.out.cell 0
   have y3:=PX.out.cell 1
   have y4:=PD.out.cell 0
   have y5:=PD.out.cell 1
   have y6:=D1.out.cell 0
   simp only[zq1,zq2,zq3] at y0 y1 y2 y3 y4 y5 y6
   have u0:=YE y0
   have u1:=YE y1
   have u2:=YE y2
   have u3:=YE y3
   have u4:=YE y4
   have u5:=YE y5
   have u6:=YE y6
   clear y0 y1 y2 y3 y4 y5 y6
   have hq:=HQ.out true (Y-X) (by unfold addNeg;rw[if_neg (by decide),if_pos c];rfl) (by unfold addNum;rw[if_neg (by decide),if_pos c])
   obtain⟨fx,fy,fz,hv⟩:=signW_form true ((Y-X) / (Y-X).gcd D) (D / (Y-X).gcd D)
   have HMd:=zh fun W=>ret_gV (rfMadeW (Y-X) D true W (by have:=HBd.out;omega) HBd.out.2.2.1 HBd.out.2.2.2)
   rw[hv] at hq HMd
   have HCl:=zh fun W=>ret_gV (rfMinusW Y X W (by have:=HBd.out;omega) (YD c))
   have HQe:=zh hq
   clear hv hq HQ HBd
   generalize Y-X=N at *
   refine wp_region_grow 10 (fun jx=>if jx=2 then some (gV (uW N)) else if jx=7 then some (gV (.tuple #[.agg #[.int .i64 fx,.int .i64 fy],.int .i64 fz])) else none) (by kernel_rfl) (by kernel_rfl) ?_
   simp only[zt1,zt2,zt3,zt4]
   refine wpG_quiet 2 (by kernel_rfl) (by rfl) (by decide) ?_
   simp only[zt1,zt2,zt3,zt4]
   repeat (go_big_quiet_step (fail))
   refine YB ?_
   refine wpG_call rfl rfl (fun w1 _ _=>⟨139,#[uW Y,uW X],by go_simp,HCl.out w1⟩) ?_
   rintro _ rfl
   simp only[Act.put,zs1,zs2,zs3]
   refine wpG_quiet 4 (by kernel_rfl) (by rfl) (by decide) ?_
   simp only[zt1,zt2,zt3,zt4]
   repeat (go_big_quiet_step (fail))
   refine YB ?_
   refine wpG_call rfl rfl (fun w1 _ _=>⟨97,#[uW N,.bool true,uW D],by go_simp,HMd.out w1⟩) ?_
   rintro _ rfl
   simp only[Act.put,zs1,zs2,zs3]
   refine wpG_quiet 2 (by kernel_rfl) (by rfl) (by decide) ?_
   simp only[zt1,zt2,zt3,zt4]
   repeat (go_big_quiet_step (fail))
   refine YB ?_
   refine Zc ?_
   intro w9 hb9 hF
   have D29:=D2.out.below hb9 D2.out.lt
   have HB9:=HB.out.trans (hb9.mono HB.out.size)
   have q0:=D29.cell 0
   have f0:=D29.frozen 0
   have E1:=(D29.set_ 0 (.int .i64 fx))
   have f1:=E1.frozen 1
   have E2:=E1.set_ 1 (.int .i64 fy)
   have p0:=E2.cell 0
   have p1:=E2.cell 1
   have r1:=E1.cell 1
   simp only[zs1,zs2,zs3,] at p0 p1 r1
   simp only[zq1,zq2,zq3] at q0 p0 p1 r1
   have HBz:=zh ((HB9.setCell (p:=⟨w.heap.size+1+1,0,none⟩) (by show w.heap.size≤w.heap.size+1+1;omega) (.int .i64 fx)).setCell (p:=⟨w.heap.size+1+1,1,none⟩) (by show w.heap.size≤w.heap.size+1+1;omega) (.int .i64 fy))
   clear D29 HB9 E1 E2 hF u0 u1 u2 u3 u4 u5 u6 HMd HCl
   go_wp2_with fail
   refine YC (v:=.tuple #[.agg #[.int .i64 fx,.int .i64 fy],.int .i64 fz]) (by simp[results,Tryz.results112,go_sem,p0,p1]) rfl ?_
   exact⟨by rw[HQe.out],HBz.out⟩
  rw[yC c]
  go_upto_region 8 with fail
  have y0:=PX.out.cell 0
  have y1:=PX.out.cell 1
  have y2:=PY.out.cell 0
  have y3:=PY.out.cell 1
  have y4:=PD.out.cell 0
  have y5:=PD.out.cell 1
  have y6:=D0.out.cell 0
  simp only[zq1,zq2,zq3] at y0 y1 y2 y3 y4 y5 y6
  have u0:=YE y0
  have u1:=YE y1
  have u2:=YE y2
  have u3:=YE y3
  have u4:=YE y4
  have u5:=YE y5
  have u6:=YE y6
  clear y0 y1 y2 y3 y4 y5 y6
  have hq:=HQ.out false (X-Y) (by unfold addNeg;rw[if_neg (by decide),if_neg c]) (by unfold addNum;rw[if_neg (by decide),if_neg c])
  obtain⟨fx,fy,fz,hv⟩:=signW_form false ((X-Y) / (X-Y).gcd D) (D / (X-Y).gcd D)
  have HMd:=zh fun W=>ret_gV (rfMadeW (X-Y) D false W (by have:=HBd.out;omega) HBd.out.2.2.1 HBd.out.2.2.2)
  rw[hv] at hq HMd
  have HCl:=zh fun W=>ret_gV (rfMinusW X Y W (by have:=HBd.out;omega) (Nat.not_lt.1 c))
  have HQe:=zh hq
  clear hv hq HQ HBd
  generalize X-Y=N at *
  refine wp_region_grow 10 (fun jx=>if jx=2 then some (gV (uW N)) else if jx=7 then some (gV (.tuple #[.agg #[.int .i64 fx,.int .i64 fy],.int .i64 fz])) else none) (by kernel_rfl) (by kernel_rfl) ?_
  simp only[zt1,zt2,zt3,zt4]
  refine wpG_quiet 2 (by kernel_rfl) (by rfl) (by decide) ?_
  simp only[zt1,zt2,zt3,zt4]
  repeat (go_big_quiet_step (fail))
  refine YB ?_
  refine wpG_call rfl rfl (fun w1 _ _=>⟨139,#[uW X,uW Y],by go_simp,HCl.out w1⟩) ?_
  rintro _ rfl
  simp only[Act.put,zs1,zs2,zs3]
  refine wpG_quiet 4 (by kernel_rfl) (by rfl) (by decide) ?_
  simp only[zt1,zt2,zt3,zt4]
  repeat (go_big_quiet_step (fail))
  refine YB ?_
  refine wpG_call rfl rfl (fun w1 _ _=>⟨97,#[uW N,.bool false,uW D],by go_simp,HMd.out w1⟩) ?_
  rintro _ rfl
  simp only[Act.put,zs1,zs2,zs3]
  refine wpG_quiet 2 (by kernel_rfl) (by rfl) (by decide) ?_
  simp only[zt1,zt2,zt3,zt4]
  repeat (go_big_quiet_step (fail))
  refine YB ?_
  refine Zc ?_
  intro w9 hb9 hF
  have D29:=D2.out.below hb9 D2.out.lt
  have HB9:=HB.out.trans (hb9.mono HB.out.size)
  have q0:=D29.cell 0
  have f0:=D29.frozen 0
  have E1:=(D29.set_ 0 (.int .i64 fx))
  have f1:=E1.frozen 1
  have E2:=E1.set_ 1 (.int .i64 fy)
  have p0:=E2.cell 0
  have p1:=E2.cell 1
  have r1:=E1.cell 1
  simp only[zs1,zs2,zs3,] at p0 p1 r1
  simp only[zq1,zq2,zq3] at q0 p0 p1 r1
  have HBz:=zh ((HB9.setCell (p:=⟨w.heap.size+1+1,0,none⟩) (by show w.heap.size≤w.heap.size+1+1;omega) (.int .i64 fx)).setCell (p:=⟨w.heap.size+1+1,1,none⟩) (by show w.heap.size≤w.heap.size+1+1;omega) (.int .i64 fy))
  clear D29 HB9 E1 E2 hF u0 u1 u2 u3 u4 u5 u6 HMd HCl
  go_wp2_with fail
  refine YC (v:=.tuple #[.agg #[.int .i64 fx,.int .i64 fy],.int .i64 fz]) (by simp[results,Tryz.results112,go_sem,p0,p1]) rfl ?_
  exact⟨by rw[HQe.out],HBz.out⟩
 go_upto_region 5 with fail
 clear y0 y2
 have y0:=PX.out.cell 0
 have y1:=PX.out.cell 1
 have y2:=PY.out.cell 0
 have y3:=PY.out.cell 1
 have y4:=PD.out.cell 0
 have y5:=PD.out.cell 1
 have y6:=D0.out.cell 0
 simp only[zq1,zq2,zq3] at y0 y1 y2 y3 y4 y5 y6
 have u0:=YE y0
 have u1:=YE y1
 have u2:=YE y2
 have u3:=YE y3
 have u4:=YE y4
 have u5:=YE y5
 have u6:=YE y6
 clear y0 y1 y2 y3 y4 y5 y6
 have hq:=HQ.out false (X+Y) (by unfold addNeg;rfl) (by unfold addNum;rfl)
 obtain⟨fx,fy,fz,hv⟩:=signW_form false ((X+Y) / (X+Y).gcd D) (D / (X+Y).gcd D)
 have HMd:=zh fun W=>ret_gV (rfMadeW (X+Y) D false W (by have:=HBd.out;omega) HBd.out.2.2.1 HBd.out.2.2.2)
 rw[hv] at hq HMd
 have HCl:=zh fun W=>ret_gV (rfPlusW X Y W (by have:=HBd.out;omega))
 have HQe:=zh hq
 clear hv hq HQ HBd
 generalize X+Y=N at *
 refine wp_region_grow 10 (fun jx=>if jx=2 then some (gV (uW N)) else if jx=7 then some (gV (.tuple #[.agg #[.int .i64 fx,.int .i64 fy],.int .i64 fz])) else none) (by kernel_rfl) (by kernel_rfl) ?_
 simp only[zt1,zt2,zt3,zt4]
 refine wpG_quiet 2 (by kernel_rfl) (by rfl) (by decide) ?_
 simp only[zt1,zt2,zt3,zt4]
 repeat (go_big_quiet_step (fail))
 refine YB ?_
 refine wpG_call rfl rfl (fun w1 _ _=>⟨140,#[uW X,uW Y],by go_simp,HCl.out w1⟩) ?_
 rintro _ rfl
 simp only[Act.put,zs1,zs2,zs3]
 refine wpG_quiet 4 (by kernel_rfl) (by rfl) (by decide) ?_
 simp only[zt1,zt2,zt3,zt4]
 repeat (go_big_quiet_step (fail))
 refine YB ?_
 refine wpG_call rfl rfl (fun w1 _ _=>⟨97,#[uW N,.bool false,uW D],by go_simp,HMd.out w1⟩) ?_
 rintro _ rfl
 simp only[Act.put,zs1,zs2,zs3]
 refine wpG_quiet 2 (by kernel_rfl) (by rfl) (by decide) ?_
 simp only[zt1,zt2,zt3,zt4]
 repeat (go_big_quiet_step (fail))
 refine YB ?_
 refine Zc ?_
 intro w9 hb9 hF
 have D29:=D2.out.below hb9 D2.out.lt
 have HB9:=HB.out.trans (hb9.mono HB.out.size)
 have q0:=D29.cell 0
 have f0:=D29.frozen 0
 have E1:=(D29.set_ 0 (.int .i64 fx))
 have f1:=E1.frozen 1
 have E2:=E1.set_ 1 (.int .i64 fy)
 have p0:=E2.cell 0
 have p1:=E2.cell 1
 have r1:=E1.cell 1
 simp only[zs1,zs2,zs3,] at p0 p1 r1
 simp only[zq1,zq2,zq3] at q0 p0 p1 r1
 have HBz:=zh ((HB9.setCell (p:=⟨w.heap.size+1+1,0,none⟩) (by show w.heap.size≤w.heap.size+1+1;omega) (.int .i64 fx)).setCell (p:=⟨w.heap.size+1+1,1,none⟩) (by show w.heap.size≤w.heap.size+1+1;omega) (.int .i64 fy))
 clear D29 HB9 E1 E2 hF u0 u1 u2 u3 u4 u5 u6 HMd HCl
 go_wp2_with fail
 refine YC (v:=.tuple #[.agg #[.int .i64 fx,.int .i64 fy],.int .i64 fz]) (by simp[results,Tryz.results112,go_sem,p0,p1]) rfl ?_
 exact⟨by rw[HQe.out],HBz.out⟩
def keptV (m:Int) (f a:FrT):Value:=if fracOk (qOf a*qOf f)=true then .tuple #[.bool (!over23 m f a),.int .i64 0] else .tuple #[.bool false,.int .i64 5]
theorem rfKept (a f:FrT) (m:Int) (w:World) (ha:frGood a=true) (hf:frGood f=true) (hm:0≤m∧m≤67108864) :
  Calls Tryz.prog 72 #[a.val,f.val,.int .i64 m] w fun e w'=>e = .returned (keptV m f a)∧Below w.heap.size w w':=by
 have hM:=fun W=>rfTimesW a f W ha hf
 have HV:Hid (keptV m f a=if fracOk (qOf a*qOf f)=true then .tuple #[.bool (!over23 m f a),.int .i64 0] else .tuple #[.bool false,.int .i64 5]):=rfl
 have HOv:Hid (fracOk (qOf a*qOf f)=true→(!over23 m f a)=decide (cmpF (frOf (qOf a*qOf f)) ⟨m,1⟩≤0)):=fun h=>by
  unfold over23
  rw[h,Bool.true_and,Bool.eq_iff_iff,Bool.not_eq_true',yZ,decide_eq_true_eq]
  omega
 obtain⟨fx,fy,fz,hv⟩:=fracV_form (qOf a*qOf f)
 have HX:Hid (fracOk (qOf a*qOf f)=true→frGood ⟨fx,fy⟩=true∧frOf (qOf a*qOf f)=⟨fx,fy⟩∧fz=0):=fun h=>by
  have h2:=fracV_ok h
  rw[hv] at h2
  injection h2 with h2
  injection h2 with h2
  injection h2 with h3 h4
  injection h3 with h3
  injection h3 with h3
  injection h3 with h5 h6
  injection h5 with _ h5
  injection h6 with h6 _
  injection h6 with _ h6
  injection h4 with h4 _
  injection h4 with _ h4
  have e:frOf (qOf a*qOf f)=⟨fx,fy⟩:=by unfold frOf;rw[h5,h6]
  exact⟨by rw[← e];exact good_q h,e,h4⟩
 have HN:Hid (fracOk (qOf a*qOf f)=false→fz=5):=fun h=>by
  have h2:=fracV_no h
  rw[hv] at h2
  injection h2 with h2
  injection h2 with h2
  injection h2 with h3 h4
  injection h4 with h4 _
  injection h4 with _ h4
 rw[hv] at hM
 have HCm:=zh fun W (h:frGood ⟨fx,fy⟩=true)=>refCmp ⟨fx,fy⟩ ⟨m,1⟩ W h (good_one (by omega) (by omega)) (by show (0:Int)≤m;omega)
 have HO:=zh fun W=>rfOf m W
 have HM:=zh hM
 generalize over23 m f a=ob at *
 generalize keptV m f a=kv at *
 generalize frOf (qOf a*qOf f)=fo at *
 generalize fracOk (qOf a*qOf f)=ok at *
 clear ha hf hm hM hv
 obtain⟨an,ad⟩:=a
 obtain⟨fn,fd⟩:=f
 try simp only at *
 have hD0:=(Blk.new w 23 #[.int .i64 an,.int .i64 ad]).alloc (.cells #[.int .i64 fn,.int .i64 fd] 23)
 have hD1:=Blk.new (w.alloc (.cells #[.int .i64 an,.int .i64 ad] 23)) 23 #[.int .i64 fn,.int .i64 fd]
 rw[yY] at hD1
 have D0:=zh hD0
 have D1:=zh hD1
 have HB:=zh (((yB _ w).alloc (yA _) (.cells #[.int .i64 an,.int .i64 ad] 23)).alloc (by simp) (.cells #[.int .i64 fn,.int .i64 fd] 23))
 clear hD0 hD1
 go_enter Tryz.func72,Tryz.ntmps72
 go_upto_region 1 with fail
 generalize (w.alloc (.cells #[.int .i64 an,.int .i64 ad] 23)).alloc (.cells #[.int .i64 fn,.int .i64 fd] 23)=W1 at *
 have y0:=D0.out.cell 0
 have y1:=D0.out.cell 1
 have y2:=D1.out.cell 0
 have y3:=D1.out.cell 1
 simp only[zq1,zq2,zq3] at y0 y1 y2 y3
 go_upto_region 2 with (first | (go_at_call 109;refine (HM.out _).mono ?_;rintro e w2 ⟨rfl,hb2⟩))
 clear y0 y1 y2 y3
 have hb9:=hb2.alloc hb2.size (.cells #[.int .i64 fx,.int .i64 fy] 23)
 have HB:=zh (HB.out.trans (hb9.mono HB.out.size))
 have HX2:=zh (Blk.new w2 23 #[.int .i64 fx,.int .i64 fy])
 clear hb9 hb2 D0 D1 HM
 generalize w2.alloc (.cells #[.int .i64 fx,.int .i64 fy] 23)=W2 at *
 generalize w2.heap.size=n1 at HX2 ⊢
 cases ok
 ·have hz:=HN.out rfl
  subst hz
  have HE:Hid (kv = .tuple #[.bool false,.int .i64 5]):=HV.out
  clear HV HOv HX HN
  go_wp2_with fail
  refine YC (results_tmp2 rfl _ _ _) (by rfl) ?_
  exact⟨by rw[HE.out];rfl,HB.out⟩
 obtain⟨hg,hfo,hz⟩:=HX.out rfl
 subst hfo hz
 have HE:Hid (kv = .tuple #[.bool (!ob),.int .i64 0]):=HV.out
 have HO2:Hid ((!ob)=decide (cmpF ⟨fx,fy⟩ ⟨m,1⟩≤0)):=HOv.out rfl
 have HCm:=zh fun W=>HCm.out W hg
 generalize cmpF ⟨fx,fy⟩ ⟨m,1⟩=c at *
 clear HV HOv HX HN hg
 go_upto_region 4 with fail
 obtain⟨y0,y1⟩:=HX2.out.c2
 have u0:=YE y0
 have u1:=YE y1
 clear y0 y1
 refine wp_region_grow 5 (fun jx=>if jx=2 then some (gV (.agg #[.int .i64 m,.int .i64 1])) else if jx=3 then some (gV (.int .i64 c)) else none) (by kernel_rfl) (by kernel_rfl) ?_
 simp only[zt1,zt2,zt3,zt4]
 refine wpG_quiet 2 (by kernel_rfl) (by rfl) (by decide) ?_
 simp only[zt1,zt2,zt3,zt4]
 repeat (go_big_quiet_step (fail))
 refine YB ?_
 refine wpG_call rfl rfl (fun w1 _ _=>⟨53,#[.int .i64 m],by go_simp,(HO.out w1).mono fun _ _ ⟨he,hb⟩=>⟨_,he,hb,rfl,trivial⟩⟩) ?_
 rintro _ rfl
 simp only[Act.put,zs1,zs2,zs3]
 refine wpG_call rfl rfl (fun w1 _ _=>⟨110,#[.agg #[.int .i64 fx,.int .i64 fy],.agg #[.int .i64 m,.int .i64 1]],by go_simp,(HCm.out w1).mono fun _ _ ⟨he,hb⟩=>⟨_,he,hb,rfl,trivial⟩⟩) ?_
 rintro _ rfl
 simp only[Act.put,zs1,zs2,zs3]
 refine wpG_quiet 1 (by kernel_rfl) (by rfl) (by decide) ?_
 simp only[zt1,zt2,zt3,zt4]
 repeat (go_big_quiet_step (fail))
 refine YB ?_
 refine Zc ?_
 intro w4 hb4 hF
 have HBz:=zh (HB.out.trans (hb4.mono HB.out.size))
 clear hb4 hF u0 u1 HB HX2 HCm HO
 go_wp2_with fail
 refine YC (results_tmp2 rfl _ _ _) (by rfl) ?_
 exact⟨by rw[HE.out,HO2.out];rfl,HBz.out⟩
theorem rfIsFactor (f:FrT) (w:World) (hf:frGood f=true):Calls Tryz.prog 46 #[f.val] w fun e w'=>e = .returned (.bool (decide (facE f=0)))∧Below w.heap.size w w':=by
 have HE:Hid (decide (facE f=0)=decide (f.den≤f.num∧f.num≤100∧f.den≤100)):=by
  unfold Hid facE
  rw[if_pos hf,decide_eq_decide]
  by_cases h:f.den≤f.num∧f.num≤100∧f.den≤100
  ·rw[if_pos h]
   exact⟨fun _=>h,fun _=>rfl⟩
  rw[if_neg h]
  exact⟨fun h2=>absurd h2 (by decide),fun h2=>absurd h2 h⟩
 have HB:=zh ((yB _ w).alloc (yA _) (.cells #[.int .i64 f.num,.int .i64 f.den] 23))
 generalize decide (facE f=0)=b at *
 clear hf
 obtain⟨n,d⟩:=f
 simp only at *
 by_cases c1:d≤n
 ·have d1:decide (d≤n)=true:=yD c1
  by_cases c2:n≤100
  ·have d2:decide (n≤100)=true:=yD c2
   have HE2:Hid (b=decide (d≤100)):=by unfold Hid;rw[HE.out,decide_eq_decide];omega
   clear c1 c2 HE
   go_enter Tryz.func46,Tryz.ntmps46
   go_wp2_with fail
   go_ret
   exact⟨Ze HE2.out.symm,HB.out⟩
  have d2:decide (n≤100)=false:=yC c2
  have HE2:Hid (b=false):=by unfold Hid;rw[HE.out];exact yC (by omega)
  clear c1 c2 HE
  go_enter Tryz.func46,Tryz.ntmps46
  go_wp2_with fail
  go_ret
  exact⟨Ze HE2.out.symm,HB.out⟩
 have d1:decide (d≤n)=false:=yC c1
 have HE2:Hid (b=false):=by unfold Hid;rw[HE.out];exact yC (by omega)
 clear c1 HE
 go_enter Tryz.func46,Tryz.ntmps46
 go_wp2_with fail
 go_ret
 exact⟨Ze HE2.out.symm,HB.out⟩
def hitsR (f:FrT) (l:List RoofT) (L:List FrT):Nat→List FindT
 | 0=>[]
 | k+1=>hitsR f l L k++(match l[k]?,L[k]? with
  | some r,some a=>if over23 r.most f a=true then [⟨3,r.name⟩] else []
  | _,_=>[])
theorem hitsR_yes {f:FrT} {l:List RoofT} {L:List FrT} {k:Nat} (hk:k<l.length) (hL:k<L.length) (h:over23 l[k].most f L[k]=true):hitsR f l L (k+1)=hitsR f l L k++[⟨3,l[k].name⟩]:=by
 rw[hitsR,yM hk,yM hL]
 dsimp only
 rw[if_pos h]
theorem hitsR_no {f:FrT} {l:List RoofT} {L:List FrT} {k:Nat} (hk:k<l.length) (hL:k<L.length) (h:over23 l[k].most f L[k]=false):hitsR f l L (k+1)=hitsR f l L k:=by
 rw[hitsR,yM hk,yM hL]
 dsimp only
 rw[if_neg (by rw[h];decide),List.append_nil]
theorem hitsR_len {f:FrT} {l:List RoofT} {L:List FrT}:∀ k,(hitsR f l L k).length ≤ k
 | 0=>yA _
 | k+1=>by
  have:=hitsR_len (f:=f) (l:=l) (L:=L) k
  rw[hitsR,yQ]
  split
  ·split <;> simp <;> omega
  simp;omega
def findsR (f:FrT) (l:List RoofT) (at_:List LoadT):List FindT:=hitsR f l (borneL l at_) l.length
def roofsE (l:List RoofT) (at_:List LoadT) (f:FrT):Int:=if gridE nameB l at_=1 then 1 else if facE f≠0 then facE f else if gridE nameB l at_≠0 then gridE nameB l at_ else if fits23 f (borneL l at_)=true then 0 else 5
theorem grid_ok {l:List RoofT} {at_:List LoadT} (h:gridE nameB l at_=0):(∀ x∈l,0≤x.most∧x.most≤67108864)∧l.length≤20∧∀ a∈borneL l at_,frGood a=true:=by
 unfold gridE at h
 split at h
 ·rename_i hg
  unfold giveB at hg
  rw[Bool.and_eq_true] at hg
  have h1:=roofs_ok hg.1
  refine⟨fun x hx=>⟨(h1.2 x hx).1.most0,(h1.2 x hx).1.most1⟩,h1.1,fun a ha=>?_⟩
  unfold borneL at ha
  obtain⟨r,hr,rfl⟩:=List.mem_map.1 ha
  exact good_q ((borne_ok h).2 r hr)
 exact absurd h (by decide)
def RoofsPost (l:List RoofT) (at_:List LoadT) (f:FrT) (w:World) (e:Ending) (w':World):Prop :=
 Below w.heap.size w w'∧((roofsE l at_ f=0∧∃ v,e = .returned (.tuple #[v,.int .i64 0])∧FindsAt w' w'.heap.size v (findsR f l at_))∨(roofsE l at_ f≠0∧e = .returned (.tuple #[.slice none 0 0,.int .i64 (roofsE l at_ f)])))
theorem Loads19Post.uni {l:List RoofT} {at_:List LoadT} {w w':World} {e:Ending} (h:Loads19Post l at_ w e w'):∃ A n c,e = .returned (.tuple #[.slice A n c,.int .i64 (gridE nameB l at_)])∧Below w.heap.size w w'∧(gridE nameB l at_=0→FrsAt w' w'.heap.size (.slice A n c) (borneL l at_)):=by
 obtain⟨hb,⟨h0,v,rfl,hF⟩ | ⟨h0,rfl⟩⟩:=h
 ·obtain⟨A,c,rfl,-⟩:=hF.open_
  exact⟨A,_,c,by rw[h0],hb,fun _=>hF⟩
 exact⟨none,0,0,rfl,hb,fun h=>absurd h h0⟩
theorem lmRoofs (v v1:Value) (l:List RoofT) (at_:List LoadT) (f:FrT) (w:World) (hv:RoofsAt w w.heap.size v l) (hn:∀ x∈l,x.name.size≤maxLen) (hl:LoadsAt w w.heap.size v1 at_) :
  Calls Tryz.prog 34 #[v,v1,f.val] w (RoofsPost l at_ f w):=by
 have HLd:=zh fun W (hb:Below w.heap.size w W)=>(gdLoads v v1 l at_ W (hv.grow hb) hn ((hl.below hb (yA _)).mono hb.size)).mono fun _ _ h=>h.uni
 have HIf:=zh fun W=>lmIsFactor f W
 obtain⟨A,c,rfl,-,hc2,hcell⟩:=hv.open_
 obtain⟨A1,c1,rfl,-⟩:=hl.open_
 unfold maxLen at hc2
 have HC:=zh hcell
 have HR1:Hid (gridE nameB l at_=1→roofsE l at_ f=1):=fun h=>if_pos h
 have HR2:Hid (gridE nameB l at_≠1→facE f≠0→roofsE l at_ f=facE f):=fun h h2=>(if_neg h).trans (if_pos h2)
 have HR3:Hid (gridE nameB l at_≠1→facE f=0→gridE nameB l at_≠0→roofsE l at_ f=gridE nameB l at_):=fun h h2 h3=>(if_neg h).trans ((if_neg (not_not_intro h2)).trans (if_pos h3))
 have HR4:Hid (facE f=0→gridE nameB l at_=0→roofsE l at_ f=if fits23 f (borneL l at_)=true then 0 else 5):=fun h2 h3=>(if_neg (by rw[h3];decide)).trans ((if_neg (not_not_intro h2)).trans (if_neg (not_not_intro h3)))
 have HGk:=zh (grid_ok (l:=l) (at_:=at_))
 have HFI:Hid (facE f=0→frGood f=true∧f.den≤f.num∧f.num≤100∧f.den≤100):=fac23
 have HFd:Hid (findsR f l at_=hitsR f l (borneL l at_) l.length):=rfl
 have hbl:=borneL_len l at_
 unfold RoofsPost
 obtain⟨fn,fd⟩:=f
 have D5:=zh (Blk.new w 23 #[.int .i64 fn,.int .i64 fd])
 have HB:=zh ((yB w.heap.size w).alloc (yA _) (.cells #[.int .i64 fn,.int .i64 fd] 23))
 generalize roofsE l at_ ⟨fn,fd⟩=re at *
 generalize gridE nameB l at_=ge at *
 generalize borneL l at_=L at *
 generalize findsR ⟨fn,fd⟩ l at_=FL at *
 clear hv hl hcell hn
 go_enter Tryz.func34,Tryz.ntmps34
 go_upto_region 1 with fail
 generalize w.alloc (.cells #[.int .i64 fn,.int .i64 fd] 23)=W1 at *
 have hld:=HLd.out _ HB.out
 go_upto_region 2 with (first | (go_at_call 78;refine hld.mono ?_;rintro e w2 ⟨A2,n2,c2,rfl,hb2,hF2⟩))
 have HF2:=zh hF2
 have HB2:=zh (HB.out.trans (hb2.mono HB.out.size))
 have D5:=zh (D5.out.below hb2 D5.out.lt)
 clear hld HLd hF2 hb2 HB
 by_cases h1:ge=1
 ·subst h1
  obtain rfl:re=1:=HR1.out (by first | rfl | trivial)
  clear HR1 HR2 HR3 HR4 HGk HFI HFd HF2 D5
  go_wp2_with fail
  go_ret2
  exact⟨HB2.out,.inr ⟨by decide,rfl⟩⟩
 have e1:(ge==1)=false:=beq_eq_false_iff_ne.2 h1
 have e5:=D5.out.cell 0
 have e6:=D5.out.cell 1
 simp only[zq1,zq2,zq3] at e5 e6
 replace HR2:=zh (HR2.out h1)
 replace HR3:=zh (HR3.out h1)
 clear HR1 h1
 go_upto_region 5 with (first | (go_at_call 79;refine (HIf.out _).mono ?_;rintro e w3 ⟨rfl,hb3⟩))
 have HB3:=zh (HB2.out.trans (hb3.mono HB2.out.size))
 have D5:=zh (D5.out.below hb3 D5.out.lt)
 have HF3:=zh fun h=>(FrsAt.below (HF2.out h) hb3 (yA _)).mono hb3.size
 clear hb3 HIf HF2 HB2 e5 e6 e1
 by_cases hf:facE ⟨fn,fd⟩=0
 rotate_left
 ·have g0:(facE ⟨fn,fd⟩ != 0)=true:=bne_iff_ne.2 hf
  have HE:Hid (re=facE ⟨fn,fd⟩):=HR2.out hf
  have Hne:=zh hf
  clear HR2 HR3 HR4 HFI hf
  generalize facE ⟨fn,fd⟩=fe at *
  go_wp2_with fail
  go_ret2
  exact⟨HB3.out,.inr ⟨by rw[HE.out];exact Hne.out,by rw[HE.out];rfl⟩⟩
 obtain⟨hgood,-⟩:=HFI.out hf
 replace HR3:=zh (HR3.out hf)
 replace HR4:=zh (HR4.out hf)
 clear HR2
 rw[hf] at *
 clear HFI hf
 by_cases hg:ge=0
 rotate_left
 ·have g0:(ge != 0)=true:=bne_iff_ne.2 hg
  obtain rfl:re=ge:=HR3.out hg
  have Hne:=zh hg
  clear HR3 HR4 hg
  go_wp2_with fail
  go_ret2
  exact⟨HB3.out,.inr ⟨Hne.out,rfl⟩⟩
 subst hg
 have HCF:Hid (re=if fits23 ⟨fn,fd⟩ L=true then 0 else 5):=HR4.out (by first | rfl | trivial)
 clear HR3 HR4
 obtain⟨hmost,hl20,hlg⟩:=HGk.out rfl
 have hF:=HF3.out rfl
 obtain⟨A3,c3,e3,-,hc3,hcl⟩:=hF.open_
 injection e3 with e3 e4 e5
 subst e3 e4 e5
 have HCL:=zh hcl
 unfold maxLen at hc3
 have HLG:=zh hlg
 have HMo:=zh hmost
 have HOv:=zh fun a m mo W (h:frGood a=true) (hm:0≤mo∧mo≤67108864) (hC:Blk W w3.heap.size 98 #[.int .i64 fn,.int .i64 fd,.int .i64 m])=>lmOver a ⟨fn,fd⟩ mo w3.heap.size m W h hgood hm hC
 have HEA:Hid (erTo ⟨fn,fd⟩ L L.length=if fits23 ⟨fn,fd⟩ L=true then 0 else 5):=erTo_all
 have HEZ:Hid (∀ k (hk:k<L.length),erTo ⟨fn,fd⟩ L (k+1)=if fracOk (qOf L[k]*qOf ⟨fn,fd⟩)=true then erTo ⟨fn,fd⟩ L k else 5):=fun k hk=>erTo_step hk
 have HE0:Hid (erTo ⟨fn,fd⟩ L 0=0):=erTo_zero
 have e5:=D5.out.cell 0
 have e6:=D5.out.cell 1
 simp only[zq1,zq2,zq3] at e5 e6
 have HS0:Hid (ChkS w3 (w3.alloc (.cells #[.int .i64 fn,.int .i64 fd,.int .i64 0] 98)) w3.heap.size fn fd (erTo ⟨fn,fd⟩ L 0) (.slice none 0 0) (.slice none 0 0) (hitsR ⟨fn,fd⟩ l L 0) []):=by
  rw[HE0.out]
  exact⟨(yB _ _).alloc (yA _) _,Blk.new _ _ _,yA _,yJ _ _ _ _,yJ _ _ _ _,(by simp[Value.ownBlock]),(by simp[Value.ownBlock]),fun k e=>by simp[Value.ownBlock] at e⟩
 obtain⟨iF,hiF,hzF0,hzF1,hzF2⟩:=info_parts info_find
 have Hbl:=zh hbl
 have Hl20:=zh hl20
 have hLk:(L.length:Int)=(l.length:Int):=by rw[hbl]
 clear HGk HF3 hF hcl hlg hmost hgood HE0 hbl hl20
 go_upto_region 11 with fail
 generalize w3.alloc (.cells #[.int .i64 fn,.int .i64 fd,.int .i64 0] 98)=W3 at *
 clear e5 e6
 go_wp2_with fail
 go_loopw [37,12] (fun ix u wr=>∃ (k:Nat) (ov:Value),k≤L.length∧ix = .int .i64 k∧ov=u∧Hid (ChkS w3 wr w3.heap.size fn fd (erTo ⟨fn,fd⟩ L k) ov (.slice none 0 0) (hitsR ⟨fn,fd⟩ l L k) [])) (fun ix _ _=>L.length-(intOf ix).toNat)
 case atStart=>exact⟨0,_,yI _,rfl,rfl,HS0⟩
 clear HS0
 obtain⟨k,ov,hk,rfl,rfl,HT⟩:=hrel
 have k0:(0:Int)≤(k:Int):=yE _
 have hn1:=hitsR_len (f:=⟨fn,fd⟩) (l:=l) (L:=L) k
 by_cases hkl:k<L.length
 ·have k1:(k:Int)<(L.length:Int):=by omega
  have hkr:k<l.length:=by have:=Hbl.out;omega
  have hk100:k+1<100:=by have:=Hl20.out;omega
  have k2:(k:Int)<(l.length:Int):=by omega
  obtain⟨b1,o1,rfl,hb1,hx⟩:=HCL.out k hkl
  have y0:=(HT.out.bel.cell (p:=⟨b1,o1+k*2,none⟩) hb1).trans (hx k hkl).1
  have y1:=(HT.out.bel.cell (p:=⟨b1,o1+k*2+1,none⟩) hb1).trans (hx k hkl).2
  obtain⟨b2,o2,rfl,hb2,hx2⟩:=HC.out k hkr
  obtain⟨x0,-,-,x3⟩:=hx2 k hkr
  have x0:=((HB3.out.trans (HT.out.bel.mono HB3.out.size)).cell (p:=⟨b2,o2+k*4,none⟩) hb2).trans x0
  have x3:=((HB3.out.trans (HT.out.bel.mono HB3.out.size)).cell (p:=⟨b2,o2+k*4+3,none⟩) hb2).trans x3
  have HY1:=zh fun h=>hitsR_yes (f:=⟨fn,fd⟩) hkr hkl h
  have HN1:=zh fun h=>hitsR_no (f:=⟨fn,fd⟩) hkr hkl h
  have hes:=HEZ.out k hkl
  have hgo:=HLG.out _ (yU hkl)
  have hmo:=HMo.out _ (yU hkr)
  clear hx hx2
  have HA:=zh (HT.out.grow ((yB _ wr).alloc (yA _) (.cells #[.int .i64 L[k].num,.int .i64 L[k].den] 23)))
  have HX:=zh (Blk.new wr 23 #[.int .i64 L[k].num,.int .i64 L[k].den])
  have HBl:=zh ((yB wr.heap.size wr).alloc (yA _) (.cells #[.int .i64 L[k].num,.int .i64 L[k].den] 23))
  have hov:=HOv.out L[k] (erTo ⟨fn,fd⟩ L k) l[k].most _ hgo hmo (HA.out.grow ((yB _ _).drew)).chk
  obtain⟨o1b,ho1⟩:∃ b,over23 l[k].most ⟨fn,fd⟩ L[k]=b:=⟨_,rfl⟩
  rw[ho1] at hov
  go_upto_region 14 with fail
  have hbo:ov.ownBlock≠some wr.heap.size:=fun e=>Nat.lt_irrefl _ (HT.out.rowO.lt _ e).2
  have hbg:wr.heap.size≠w3.heap.size:=fun e=>Nat.lt_irrefl _ (e▸HT.out.chk.lt)
  have xl:=(cell_ltG x0)
  have x0:=(HBl.out.cell (p:=⟨b2,o2+k*4,none⟩) xl).trans x0
  have x3:=(HBl.out.cell (p:=⟨b2,o2+k*4+3,none⟩) xl).trans x3
  clear y0 y1 HT hgo HBl xl
  generalize wr.alloc (.cells #[.int .i64 L[k].num,.int .i64 L[k].den] 23)=W4 at *
  generalize wr.heap.size=bx at *
  obtain⟨num,hnum⟩:∃ num,(L[k]'hkl).num=num:=⟨_,rfl⟩
  obtain⟨den,hden⟩:∃ den,(L[k]'hkl).den=den:=⟨_,rfl⟩
  have hav:(L[k]'hkl).val = .agg #[.int .i64 num,.int .i64 den]:=by rw[← hnum,← hden]
  obtain⟨nm,hnm⟩:∃ nm,(l[k]'hkr).name=nm:=⟨_,rfl⟩
  obtain⟨mo,hmo2⟩:∃ mo,(l[k]'hkr).most=mo:=⟨_,rfl⟩
  rw[hav,hmo2] at hov
  rw[hnum,hden] at HX
  rw[hnm] at x0 HY1
  rw[hmo2] at x3
  have z0:=((HX.out.below ((yB _ W4).drew) HX.out.lt).cell 0)
  have z1:=((HX.out.below ((yB _ W4).drew) HX.out.lt).cell 1)
  simp only[zq1,zq2,zq3] at z0 z1
  have x3':W4.drew.cell? ⟨b2,o2+k*4+3,none⟩=some (.int .i64 mo):=x3
  have HA2:=zh (HA.out.grow ((yB _ W4).drew))
  have HX2:=zh (HX.out.below ((yB _ W4).drew) HX.out.lt)
  have hxn:=cell_ltG x0
  generalize fracOk (qOf L[k]*qOf ⟨fn,fd⟩)=ok at *
  clear hnum hden hav hnm hmo2 hmo
  cases o1b
  ·refine wp_region_po (fun i=>([.pointer (some ⟨w3.heap.size,0,none⟩),.agg #[.int .i64 num,.int .i64 den],.slice (some ⟨b2,o2,none⟩) l.length c,.int .i64 (k:Int),.pointer (some ⟨b2,o2+k*4,none⟩),.pointer (some ⟨b2,o2+k*4+3,none⟩),.int .i64 mo,.bool false]:List Value).getD i undef) [7] (by kernel_rfl) (by kernel_rfl) (by kernel_rfl) (by decide) ?_
   refine poJ_step (L:=[7]) rfl (by decide) ?_ ?_
   ·simp only[putAll,Act.put,zs1,zs2,zs3,readsQ]
    refine⟨?_,?_,?_,?_,?_,?_,?_,?_,trivial⟩
    all_goals first
     | exact .inl rfl
     | exact .inr (.inl (by decide +kernel))
     | (refine .inr (.inr ?_);go_simp;done)
   intro i o hi hr ho
   simp only[List.mem_cons,List.not_mem_nil,or_false] at hi
   subst hi
   obtain rfl:=Option.some.inj ho
   clear hr ho
   refine .inr (.inr ⟨63,#[.pointer (some ⟨w3.heap.size,0,none⟩),.agg #[.int .i64 num,.int .i64 den],.int .i64 mo],by simp only[putAll,Act.put,zs1,zs2,zs3,];go_simp,?_⟩)
   refine (hov).mono ?_
   rintro e w5 ⟨rfl,w4,hb4,rfl⟩
   refine⟨_,fun i=>([.pointer (some ⟨w3.heap.size,0,none⟩),.agg #[.int .i64 num,.int .i64 den],.slice (some ⟨b2,o2,none⟩) l.length c,.int .i64 (k:Int),.pointer (some ⟨b2,o2+k*4,none⟩),.pointer (some ⟨b2,o2+k*4+3,none⟩),.int .i64 mo,.bool false]:List Value).getD i undef,rfl,agreeL_all (by refine⟨?_,?_,?_,?_,?_,?_,?_,?_,trivial⟩ <;> first | exact .inl rfl | exact .inr (.inr rfl) | exact .inr (.inl (by decide +kernel))),rfl,?_⟩
   refine poJ_end rfl ?_ ?_
   ·simp only[putAll,Act.put,zs1,zs2,zs3,readsQ]
    refine⟨?_,?_,?_,?_,?_,?_,?_,?_,trivial⟩
    all_goals first
     | exact .inl rfl
     | exact .inr (.inl (by decide +kernel))
     | (refine .inr (.inr ?_);go_simp;done)
   simp only[putAll,Act.put,zs1,zs2,zs3,]
   have HT:=zh (errW_step (ok:=ok) HA2.out hb4)
   rw[← hes] at HT
   have HX:=zh ((HX2.out.below hb4 HX2.out.lt).errW (ok:=ok) hbg)
   have x05:(errW ok w3.heap.size w4).cell? ⟨b2,o2+k*4,none⟩=some (.string nm):=by
    have h1:=(hb4.cell (p:=⟨b2,o2+k*4,none⟩) hxn).trans x0
    cases ok
    case true=>exact h1
    have hne:b2≠w3.heap.size:=by have:=HB3.out.size;omega
    exact (World.cell?_setCell_other _ _ _ _ (by intro e;injection e with e;exact hne e.symm)).trans h1
   generalize errW ok w3.heap.size w4=w5 at *
   clear hb4 HA HA2 HX2 x0 x3 x3' z0 z1 hov
   have hno:=HN1.out ho1
   rw[← hno] at HT
   go_wp2_with fail
   go_roundw
   case rel=>exact⟨k+1,_,by omega,by go_num,rfl,HT⟩
   simp[intOf];omega
  refine wp_region_po (fun i=>([.pointer (some ⟨w3.heap.size,0,none⟩),.agg #[.int .i64 num,.int .i64 den],.slice (some ⟨b2,o2,none⟩) l.length c,.int .i64 (k:Int),.pointer (some ⟨b2,o2+k*4,none⟩),.pointer (some ⟨b2,o2+k*4+3,none⟩),.int .i64 mo,.bool true]:List Value).getD i undef) [7] (by kernel_rfl) (by kernel_rfl) (by kernel_rfl) (by decide) ?_
  refine poJ_step (L:=[7]) rfl (by decide) ?_ ?_
  ·simp only[putAll,Act.put,zs1,zs2,zs3,readsQ]
   refine⟨?_,?_,?_,?_,?_,?_,?_,?_,trivial⟩
   all_goals first
    | exact .inl rfl
    | exact .inr (.inl (by decide +kernel))
    | (refine .inr (.inr ?_);go_simp;done)
  intro i o hi hr ho
  simp only[List.mem_cons,List.not_mem_nil,or_false] at hi
  subst hi
  obtain rfl:=Option.some.inj ho
  clear hr ho
  refine .inr (.inr ⟨63,#[.pointer (some ⟨w3.heap.size,0,none⟩),.agg #[.int .i64 num,.int .i64 den],.int .i64 mo],by simp only[putAll,Act.put,zs1,zs2,zs3,];go_simp,?_⟩)
  refine (hov).mono ?_
  rintro e w5 ⟨rfl,w4,hb4,rfl⟩
  refine⟨_,fun i=>([.pointer (some ⟨w3.heap.size,0,none⟩),.agg #[.int .i64 num,.int .i64 den],.slice (some ⟨b2,o2,none⟩) l.length c,.int .i64 (k:Int),.pointer (some ⟨b2,o2+k*4,none⟩),.pointer (some ⟨b2,o2+k*4+3,none⟩),.int .i64 mo,.bool true]:List Value).getD i undef,rfl,agreeL_all (by refine⟨?_,?_,?_,?_,?_,?_,?_,?_,trivial⟩ <;> first | exact .inl rfl | exact .inr (.inr rfl) | exact .inr (.inl (by decide +kernel))),rfl,?_⟩
  refine poJ_end rfl ?_ ?_
  ·simp only[putAll,Act.put,zs1,zs2,zs3,readsQ]
   refine⟨?_,?_,?_,?_,?_,?_,?_,?_,trivial⟩
   all_goals first
    | exact .inl rfl
    | exact .inr (.inl (by decide +kernel))
    | (refine .inr (.inr ?_);go_simp;done)
  simp only[putAll,Act.put,zs1,zs2,zs3,]
  have HT:=zh (errW_step (ok:=ok) HA2.out hb4)
  rw[← hes] at HT
  have HX:=zh ((HX2.out.below hb4 HX2.out.lt).errW (ok:=ok) hbg)
  have x05:(errW ok w3.heap.size w4).cell? ⟨b2,o2+k*4,none⟩=some (.string nm):=by
   have h1:=(hb4.cell (p:=⟨b2,o2+k*4,none⟩) hxn).trans x0
   cases ok
   case true=>exact h1
   have hne:b2≠w3.heap.size:=by have:=HB3.out.size;omega
   exact (World.cell?_setCell_other _ _ _ _ (by intro e;injection e with e;exact hne e.symm)).trans h1
  generalize errW ok w3.heap.size w4=w5 at *
  clear hb4 HA HA2 HX2 x0 x3 x3' z0 z1 hov
  have hye:=HY1.out ho1
  have HT:=zh (HT.out.grow ((yB _ w5).alloc (yA _) (.cells #[.int .i64 3,.string nm] 49)))
  have Hnew:=zh (World.news_of_block (Blk.new w5 49 #[.int .i64 3,.string nm]))
  have hsz:=HT.out.bel.size
  have hl20:=Hl20.out
  have hbl2:=Hbl.out
  go_wp2_with (at_builtin;refine wpList_append_own_at _ rfl _ _ 39 rfl w3.heap.size 49 iF (.agg #[.int .i64 0,.string ⟨#[]⟩]) 2 24 Tryz.underlying39 hiF hzF0 hzF1 hzF2 rfl (by decide) _ _ _ rfl HT.out.rowO ⟨w5.heap.size,0,none⟩ 1 1 [.int .i64 3,.string nm] rfl rfl Hnew.out (by simp[Value.oneCell']) (by unfold maxLen;omega) (by omega) hsz ?_;intro v8 w8 hown8 hgrow8 _ hat8;have HT:=zh (HT.out.pushO (y:=⟨3,nm⟩) hown8 hgrow8 hat8);clear hown8 hgrow8 hat8)
  go_roundw
  case rel=>exact⟨v8,_,_,_,⟨k+1,by omega,rfl,by rw[hye];exact HT⟩,rfl,rfl,rfl,by go_num⟩
  simp[intOf];omega
 obtain rfl:k=L.length:=by omega
 have HT:=HT
 rw[HEA.out] at HT
 have c2:=HT.out.chk.cell 2
 simp only[zq1,zq2,zq3] at c2
 by_cases hfit:fits23 ⟨fn,fd⟩ L=true
 ·rw[if_pos hfit] at HT c2
  have HRe:Hid (re=0):=by unfold Hid;rw[HCF.out,if_pos hfit]
  obtain⟨Ao,co,hov,-⟩:=Flat.of_own HT.out.rowO
  subst hov
  have HBz:=zh (HB3.out.trans (HT.out.bel.mono HB3.out.size))
  have HFn:Hid (FL=hitsR ⟨fn,fd⟩ l L L.length):=by unfold Hid;rw[HFd.out,Hbl.out]
  have HRow:=zh (Flat.of_own HT.out.rowO)
  generalize hitsR ⟨fn,fd⟩ l L L.length=F1 at *
  obtain⟨N1,hN1⟩:∃ N1,F1.length=N1:=⟨_,rfl⟩
  have HN1:=zh hN1
  rw[hN1]
  clear hfit hN1 HFd
  go_wp2_with fail
  go_ret2
  exact⟨HBz.out,.inl ⟨HRe.out,_,rfl,by rw[HFn.out];have:=HRow.out;rw[HN1.out] at this;unfold FindsAt;rw[HN1.out];exact this⟩⟩
 rw[if_neg hfit] at HT c2
 obtain rfl:re=5:=by rw[HCF.out,if_neg hfit]
 have HBz:=zh (HB3.out.trans (HT.out.bel.mono HB3.out.size))
 clear hfit
 go_wp2_with (exact Go.WalkKit.wp_stop)
 go_quiet (fail)
 go_wp2_with fail
 go_ret2
 exact⟨Zf HBz.out _,.inr ⟨by decide,rfl⟩⟩
end Go.Proofs.YtknkhnahflmjiaaGreatDoor
