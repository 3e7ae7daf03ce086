/- Lemmas. -/
import Derived.Test.YtmmhehgajkaniaaGreatDoorZ18
namespace Go.Proofs.YtmmhehgajkaniaaGreatDoor
set_option maxRecDepth 100000
set_option maxHeartbeats 40000000
open Go.RowKit Go.Shelf
theorem pg {n:Int} (w:World) (h1 : -1152921504606846976≤n) (h2:n≤1152921504606846976) :
  Calls Tryz.prog 25 #[.int .i64 n] w fun e w'=>∃v,e=.returned v∧Below w.heap.size w w'∧(gV (.int .u64 (n.natAbs:Nat))).σ v∧(gV (.int .u64 (n.natAbs:Nat))).φ v w' :=
 (Lw n w h1 h2).mono fun _ _ ⟨he,hw⟩=>⟨_,he,hw▸yB _ _,rfl,trivial⟩
theorem PY {x y:Nat} (w:World) (hx:x<18446744073709551616) (hy:y<18446744073709551616) :
  Calls Tryz.prog 150 #[.int .u64 x,.int .u64 y] w fun e w'=>∃v,e=.returned v∧Below w.heap.size w w'∧(gV (uW (x*y))).σ v∧(gV (uW (x*y))).φ v w' :=
 (Qz x y hx hy w).mono fun _ _ ⟨he,hb⟩=>⟨_,he,hb,rfl,trivial⟩
theorem Iz (neg:Bool) (n d:Nat):∃x y z:Int,eU neg n d=.tuple #[.agg #[.int .i64 x,.int .i64 y],.int .i64 z]:=by
 unfold eU;by_cases h:n≤1152921504606846976∧d≤1152921504606846976
 ·exact⟨_,_,_,if_pos h⟩
 exact⟨_,_,_,if_neg h⟩
theorem TK {x y:Nat} (hx:x≤1152921504606846976) (hy:y≤1152921504606846976):x*y<2^127:=Nat.lt_of_le_of_lt (Nat.mul_le_mul hx hy) (by decide)
theorem Qv (a b:FrT) (w:World) (ha:au a=true) (hb:au b=true) :
  Calls Tryz.prog 103 #[a.val,b.val] w fun e w'=>e=.returned (dS (dI a*dI b))∧Below w.heap.size w w':=by
 obtain⟨a1,a2,a3,a4⟩:=ez ha;obtain⟨b1,b2,b3,b4⟩:=ez hb;obtain⟨s1,ds1⟩:∃s1,decide (a.num<0)=s1:=⟨_,rfl⟩;obtain⟨s2,ds2⟩:∃s2,decide (b.num<0)=s2:=⟨_,rfl⟩;have hN:a.num.natAbs*b.num.natAbs<2^127:=TK (by omega) (by omega);have hD:a.den.natAbs*b.den.natAbs<2^127:=TK (by omega) (by omega);have vK:0<a.den.natAbs*b.den.natAbs:=Nat.mul_pos (by omega) (by omega);have hq:dS (dI a*dI b)=_:=qv8 (N:=a.num.natAbs*b.num.natAbs) (D:=a.den.natAbs*b.den.natAbs) (neg:=s1 != s2) vK (by
  unfold dI;rw[Rat.mkRat_mul_mkRat];congr 1
  rw[←ds1,←ds2,Int.natCast_mul];by_cases c1:a.num<0 <;> by_cases c2:b.num<0 <;> simp only[c1,c2,decide_true,decide_false,bne_self_eq_false,Bool.true_bne,Bool.false_bne,Bool.not_false,if_true,Bool.false_eq_true,if_false]
  ·rw[show (a.num.natAbs:Int)=-a.num by omega,show (b.num.natAbs:Int)=-b.num by omega,Int.neg_mul_neg]
  ·rw[show (a.num.natAbs:Int)=-a.num by omega,show (b.num.natAbs:Int)=b.num by omega,Int.neg_mul,Int.neg_neg]
  ·rw[show (a.num.natAbs:Int)=a.num by omega,show (b.num.natAbs:Int)=-b.num by omega,Int.mul_neg,Int.neg_neg]
  rw[show (a.num.natAbs:Int)=a.num by omega,show (b.num.natAbs:Int)=b.num by omega])
 have HM:=zh fun W=>XN _ _ (s1 != s2) W hN vK hD;obtain⟨fx,fy,fz,hv⟩:=Iz (s1 != s2) (a.num.natAbs*b.num.natAbs/(a.num.natAbs*b.num.natAbs).gcd (a.den.natAbs*b.den.natAbs)) (a.den.natAbs*b.den.natAbs/(a.num.natAbs*b.num.natAbs).gcd (a.den.natAbs*b.den.natAbs));rw[hv] at HM hq;rw[hq];clear hq hv hN hD vK;have zv:=zh fun W=>pg (n:=a.num) W (by omega) (by omega);have iw:=zh fun W=>pg (n:=b.num) W (by omega) (by omega)
 have nF:=zh fun W=>pg (n:=a.den) W (by omega) (by omega);have gP:=zh fun W=>pg (n:=b.den) W (by omega) (by omega);have Wy:=zh fun W=>PY (x:=a.num.natAbs) (y:=b.num.natAbs) W (by omega) (by omega);have Wx:=zh fun W=>PY (x:=a.den.natAbs) (y:=b.den.natAbs) W (by omega) (by omega);clear ha hb a1 a2 a3 a4 b1 b2 b3 b4;obtain⟨an,ad⟩:=a;obtain⟨bn,bd⟩:=b;simp only at*;generalize an.natAbs*bn.natAbs=N at*;generalize ad.natAbs*bd.natAbs=D at*
 have D0:=((Blk.new w 29 #[.int .i64 an,.int .i64 ad]).alloc (.cells #[.int .i64 bn,.int .i64 bd] 29)).alloc (.cells #[.int .i64 0,.int .i64 0] 29);have D1:=(Blk.new (w.alloc (.cells #[.int .i64 an,.int .i64 ad] 29)) 29 #[.int .i64 bn,.int .i64 bd]).alloc (.cells #[.int .i64 0,.int .i64 0] 29);have D2:=Blk.new ((w.alloc (.cells #[.int .i64 an,.int .i64 ad] 29)).alloc (.cells #[.int .i64 bn,.int .i64 bd] 29)) 29 #[.int .i64 0,.int .i64 0]
 have hB:=ni w (.cells #[.int .i64 an,.int .i64 ad] 29) (.cells #[.int .i64 bn,.int .i64 bd] 29) (.cells #[.int .i64 0,.int .i64 0] 29);simp only[World.size_alloc] at D1 D2;have D0:=zh D0;have D1:=zh D1;have D2:=zh D2;have HB:=zh hB;clear hB;go_enter Tryz.func103,Tryz.ntmps103;go_upto_region 1 with fail;generalize (((w.alloc (.cells #[.int .i64 an,.int .i64 ad] 29)).alloc (.cells #[.int .i64 bn,.int .i64 bd] 29)).alloc (.cells #[.int .i64 0,.int .i64 0] 29))=W1 at*
 have y0:=D0.o.cell 0;have y1:=D0.o.cell 1;have y2:=D1.o.cell 0;have y3:=D1.o.cell 1;simp only[aG,aH,aD] at y0 y1 y2 y3;have u0:=YL y0;have u1:=YL y1;have u2:=YL y2;have u3:=YL y3;clear y0 y1 y2 y3;refine af 24 (fun jx=>if jx=2 then some (gV (.int .u64 (an.natAbs:Nat))) else if jx=5 then some (gV (.int .u64 (bn.natAbs:Nat))) else if jx=6 then some (gV (uW N)) else if jx=16 then some (gV (.int .u64 (ad.natAbs:Nat))) else if jx=19 then some (gV (.int .u64 (bd.natAbs:Nat))) else if jx=20 then some (gV (uW D)) else if jx=21 then some (gV (.tuple #[.agg #[.int .i64 fx,.int .i64 fy],.int .i64 fz])) else none) (by kernel_rfl) (by kernel_rfl) ?_
 simp only[aM,aP,aN,aO];refine zw 2 ?_;simp only[aM,aP,aN,aO]
 repeat (go_big_quiet_step (fail))
 refine YE ?_;refine ae rfl rfl (fun w1 _ _=>zc (zv.o w1)) ?_;rintro _ rfl;simp only[Act.put,aC,aB,aA];refine zw 2 ?_;simp only[aM,aP,aN,aO]
 repeat (go_big_quiet_step (fail))
 refine YE ?_;refine ae rfl rfl (fun w1 _ _=>zc (iw.o w1)) ?_;rintro _ rfl;simp only[Act.put,aC,aB,aA];refine ae rfl rfl (fun w1 _ _=>zc (Wy.o w1)) ?_;rintro _ rfl;simp only[Act.put,aC,aB,aA];refine zw 9 ?_;simp only[aM,aP,aN,aO]
 repeat (go_big_quiet_step (fail))
 refine YE ?_;refine ae rfl rfl (fun w1 _ _=>zc (nF.o w1)) ?_;rintro _ rfl;simp only[Act.put,aC,aB,aA];refine zw 2 ?_;simp only[aM,aP,aN,aO]
 repeat (go_big_quiet_step (fail))
 refine YE ?_;refine ae rfl rfl (fun w1 _ _=>zc (gP.o w1)) ?_;rintro _ rfl;simp only[Act.put,aC,aB,aA];refine ae rfl rfl (fun w1 _ _=>zc (Wx.o w1)) ?_;rintro _ rfl;simp only[Act.put,aC,aB,aA];refine ae rfl rfl (fun w1 _ _=>⟨149,#[uW N,.bool (s1 != s2),uW D],by go_simp;cases s1 <;> cases s2 <;> rfl,(HM.o w1).mono fun _ _ ⟨he,hb⟩=>⟨_,he,hb,rfl,trivial⟩⟩) ?_;rintro _ rfl;simp only[Act.put,aC,aB,aA];refine zw 2 ?_
 simp only[aM,aP,aN,aO]
 repeat (go_big_quiet_step (fail))
 refine YE ?_;refine Zc ?_;intro w4 bU hF;have D24:=D2.o.below bU D2.o.lt;have fI:=HB.o.trans (bU.mono HB.o.size);have q0:=D24.cell 0;have f0:=D24.frozen 0;have E1:=(D24.set_ 0 (.int .i64 fx));have f1:=E1.frozen 1;have E2:=E1.set_ 1 (.int .i64 fy);have p0:=E2.cell 0;have p1:=E2.cell 1;have r1:=E1.cell 1;simp only[aC,aB,aA] at p0 p1 r1;simp only[aG,aH,aD] at q0 p0 p1 r1;have wd:=zh ((fI.setCell (p:=⟨w.heap.size+1+1,0,none⟩) (by show w.heap.size≤w.heap.size+1+1;omega) (.int .i64 fx)).setCell (p:=⟨w.heap.size+1+1,1,none⟩) (by show w.heap.size≤w.heap.size+1+1;omega) (.int .i64 fy))
 clear D24 fI E1 E2 HM hF u0 u1 u2 u3 D0 D1 D2 HB zv iw nF gP Wy Wx;go_wp2_with fail;refine YF (v:=.tuple #[.agg #[.int .i64 fx,.int .i64 fy],.int .i64 fz]) (by simp[results,Tryz.results103,go_sem,p0,p1]) rfl ?_;exact⟨rfl,wd.o⟩
theorem Vd {n d:Int} (h1:¬d<1) (h2:¬1152921504606846976<d) (h3:¬n < -1152921504606846976) (h4:¬1152921504606846976<n):au ⟨n,d⟩=(((Nat.gcd n.natAbs d.natAbs:Nat):Int)==1):=by
 unfold au;simp only[];rw[yD (show 1≤d by omega),yD (show d≤1152921504606846976 by omega),yD (show -1152921504606846976≤n by omega),yD (show n≤1152921504606846976 by omega)];rfl
theorem se {n d:Int} (h:d<1∨1152921504606846976<d∨n < -1152921504606846976∨1152921504606846976<n):au ⟨n,d⟩=false:=by
 unfold au;simp only[];rcases h with h|h|h|h
 ·rw[yC (show ¬1≤d by omega)];rfl
 ·rw[yC (show ¬d≤1152921504606846976 by omega),Bool.and_false];rfl
 ·rw[yC (show ¬ -1152921504606846976≤n by omega),Bool.and_false];rfl
 rw[yC (show ¬n≤1152921504606846976 by omega),Bool.and_false];rfl
abbrev uS (x:Nat):Value:=.agg #[.int .u64 0,.int .u64 (x:Int)]
theorem Qd {x:Nat} (h:x≤1152921504606846976):uW x=uS x:=by
 obtain⟨h0,h1⟩:=TY h;unfold uW uS;rw[h0,h1]
theorem vvi (a b:Nat) (w:World) (ha:a≤1152921504606846976) (eH:0<b) (hb:b≤1152921504606846976):Calls Tryz.prog 24 #[uS a,uS b] w fun e w'=>e=.returned (uS (Nat.gcd a b))∧Below w.heap.size w w':=by
 have h:=Qw a b w (Nat.lt_of_le_of_lt ha (by decide)) eH (Nat.lt_of_le_of_lt hb (by decide));rw[Qd ha,Qd hb,Qd (yH (Nat.gcd_le_right _ eH) hb)] at h;exact h
theorem qjq {f:FuncId} {args:Array Value} {u:Value} {w:World} (h:Calls Tryz.prog f args w fun e w'=>e=.returned u∧Below w.heap.size w w'):Calls Tryz.prog f args w fun e w'=>∃v,e=.returned v∧Below w.heap.size w w'∧(gV u).σ v∧(gV u).φ v w' :=
 h.mono fun _ _ hp=>⟨_,hp.1,hp.2,rfl,trivial⟩
theorem wO (x:FrT) (w:World):Calls Tryz.prog 9 #[x.val] w fun e w'=>e=.returned (.bool (au x))∧Below w.heap.size w w':=by
 obtain⟨n,d⟩:=x;have HB:=zh ((yB _ w).alloc (yA _) (.cells #[.int .i64 n,.int .i64 d] 29));have HD:=zh (Blk.new w 29 #[.int .i64 n,.int .i64 d]);go_enter Tryz.func9,Tryz.ntmps9;go_upto_region 1 with fail;generalize w.alloc (.cells #[.int .i64 n,.int .i64 d] 29)=W1 at*;obtain⟨y0,y1⟩:=HD.o.c2;by_cases c0:d<1
 ·have d0:decide (d<1)=true:=yD c0;have HV:Y0 (au ⟨n,d⟩=false):=se (.inl c0);go_wp2_with fail;go_ret;exact⟨Ze HV.o.symm,HB.o⟩
 have d0:decide (d<1)=false:=yC c0;by_cases c1:1152921504606846976<d
 ·have d1:decide (1152921504606846976<d)=true:=yD c1;have HV:Y0 (au ⟨n,d⟩=false):=se (.inr (.inl c1));go_wp2_with fail;go_ret;exact⟨Ze HV.o.symm,HB.o⟩
 have d1:decide (1152921504606846976<d)=false:=yC c1;by_cases c2:n < -1152921504606846976
 ·have d2:decide (n < -1152921504606846976)=true:=yD c2;have HV:Y0 (au ⟨n,d⟩=false):=se (.inr (.inr (.inl c2)));go_wp2_with fail;go_ret;exact⟨Ze HV.o.symm,HB.o⟩
 have d2:decide (n < -1152921504606846976)=false:=yC c2;by_cases c3:1152921504606846976<n
 ·have d3:decide (1152921504606846976<n)=true:=yD c3;have HV:Y0 (au ⟨n,d⟩=false):=se (.inr (.inr (.inr c3)));go_wp2_with fail;go_ret;exact⟨Ze HV.o.symm,HB.o⟩
 have d3:decide (1152921504606846976<n)=false:=yC c3;have HV:=zh (Vd c0 c1 c2 c3);have Me : -1152921504606846976≤n:=by omega
 have Ux:n≤1152921504606846976:=by omega
 have pR : -1152921504606846976≤d:=by omega
 have nH:d≤1152921504606846976:=by omega
 have HGc:=zh (fun W=>vvi n.natAbs d.natAbs W (by omega) (by omega) (by omega));clear c0 c1 c2 c3;go_upto_region 3 with fail;have zL:=YL y0;have zK:=YL y1;clear y0 y1;refine af 10 (fun jx=>if jx=2 then some (gV (.int .u64 (n.natAbs:Nat))) else if jx=6 then some (gV (.int .u64 (d.natAbs:Nat))) else if jx=8 then some (gV (uS (Nat.gcd n.natAbs d.natAbs))) else none) (by kernel_rfl) (by kernel_rfl) ?_
 simp only[aM,aP,aN,aO];refine zw 2 ?_;simp only[aM,aP,aN,aO]
 repeat (go_big_quiet_step (fail))
 refine YE ?_;refine ae rfl rfl ?_ ?_
 ·intro w1 ak hk;have hC:=pg (n:=n) w1 Me Ux;exact zc hC
 rintro _ rfl;simp only[Act.put,aC,aB,aA];refine zw 3 ?_;simp only[aM,aP,aN,aO]
 repeat (go_big_quiet_step (fail))
 refine YE ?_;refine ae rfl rfl ?_ ?_
 ·intro w1 ak hk;have hC:=pg (n:=d) w1 pR nH;exact zc hC
 rintro _ rfl;simp only[Act.put,aC,aB,aA];refine zw 1 ?_;simp only[aM,aP,aN,aO]
 repeat (go_big_quiet_step (fail))
 refine YE ?_;refine ae rfl rfl ?_ ?_
 ·intro w1 ak hk;have hC:=qjq (HGc.o w1);exact zc hC
 rintro _ rfl;simp only[Act.put,aC,aB,aA];refine zw 1 ?_;simp only[aM,aP,aN,aO]
 repeat (go_big_quiet_step (fail))
 refine YE ?_;refine Zc ?_;intro w8 aJ hF;have ep:=zh (HB.o.trans (aJ.mono HB.o.size));clear hF aJ zL zK HGc;generalize Nat.gcd n.natAbs d.natAbs=g at*;obtain⟨q,hq⟩:∃q,((g:Int)==1)=q:=⟨_,rfl⟩;rw[hq] at HV;cases q
 all_goals
  go_wp2_with fail;go_ret;exact⟨Ze HV.o.symm,ep.o⟩
theorem vza (m:Int) (w:World):Calls Tryz.prog 105 #[.int .i64 m] w fun e w'=>e=.returned (.agg #[.int .i64 m,.int .i64 1])∧Below w.heap.size w w':=by
 go_enter Tryz.func105,Tryz.ntmps105;go_wp2_with fail;refine YF (v:=.agg #[.int .i64 m,.int .i64 1]) (by simp[results,Tryz.results105,go_sem]) rfl ?_;exact⟨rfl,(yB _ _).alloc (yA _) _⟩
def AtU (B:Nat) (v:Value) (w:World):Prop:=∃g,v=.pointer (some ⟨g,0,none⟩)∧B≤g∧Blk w g 67 #[.int .u64 0,.int .u64 0]
def gU (B:Nat):GPost:=⟨fun v=>∃g,v=.pointer (some ⟨g,0,none⟩),AtU B,⟨_,0,rfl⟩,fun _ _ _ hb h=>by
 obtain⟨g,h1,h2,h3⟩:=h;exact⟨g,h1,h2,h3.below hb h3.lt⟩,true⟩
theorem Vh {P:Program} {o:Oper} {a:Act} {w:World} {B:Nat} (hB:B≤w.heap.size) (h:(execOp a.eval o).run P w=.ok (.value (.pointer (some ⟨w.heap.size,0,none⟩))) (w.alloc (.cells #[.int .u64 0,.int .u64 0] 67))):kX P o a (gU B) w :=
 ⟨_,_,h,(yB _ _).alloc (yA _) _,⟨_,rfl⟩,⟨_,rfl,hB,Blk.new _ _ _⟩,fun _=>⟨w.heap.size,rfl,yA _,by simp⟩⟩
theorem vC {n:Int} (w:World) (h1 : -1152921504606846976≤n) (h2:n≤1152921504606846976) :
  Calls Tryz.prog 25 #[.int .i64 n] w fun e w'=>∃v,e=.returned v∧Below w.heap.size w w'∧(gV (.int .u64 (n.natAbs:Nat))).σ v∧(gV (.int .u64 (n.natAbs:Nat))).φ v w' :=
 (Lw n w h1 h2).mono fun _ _ ⟨he,hw⟩=>⟨_,he,hw▸yB _ _,rfl,trivial⟩
theorem Qr {x y:Nat} (w:World) (hx:x<18446744073709551616) (hy:y<18446744073709551616) :
  Calls Tryz.prog 150 #[.int .u64 x,.int .u64 y] w fun e w'=>∃v,e=.returned v∧Below w.heap.size w w'∧(gV (fq (x*y))).σ v∧(gV (fq (x*y))).φ v w' :=
 (Qz x y hx hy w).mono fun _ _ ⟨he,hb⟩=>⟨_,he,hb,rfl,trivial⟩
theorem Na {o w W:World} {g6 g7:Nat} {xn xd yn yd:Value} (hB:Below w.heap.size w W) (h6:w.heap.size + 1 < g6) (h7:w.heap.size + 1 < g7) (dL:g7 ≠ g6) (b6:Blk W g6 67 #[.int .u64 0,.int .u64 0]) (b7:Blk W g7 67 #[.int .u64 0,.int .u64 0])
  (d0:Blk W w.heap.size 29 #[xn,xd]) (d1:Blk W (w.heap.size+1) 29 #[yn,yd]) (x0 x1 y0 y1:Value) (hW:o=((((W.setCell ⟨g6,0,none⟩ x0).setCell ⟨g6,1,none⟩ x1).setCell ⟨g7,0,none⟩ y0).setCell ⟨g7,1,none⟩ y1)) :
  Below w.heap.size w o∧Blk o g6 67 #[x0,x1]∧Blk o g7 67 #[y0,y1]∧Blk o w.heap.size 29 #[xn,xd]∧Blk o (w.heap.size+1) 29 #[yn,yd]:=by
 subst hW;have k4:=fun {g:Nat} {t:TypeId} {c:Array Value} (hb:Blk W g t c) (h1:g≠g6) (h2:g≠g7)=>(((hb.far (p:=⟨g6,0,none⟩) h1 x0).far (p:=⟨g6,1,none⟩) h1 x1).far (p:=⟨g7,0,none⟩) h2 y0).far (p:=⟨g7,1,none⟩) h2 y1;exact⟨(((hB.setCell (by show w.heap.size≤g6;omega) _).setCell (by show w.heap.size≤g6;omega) _).setCell (by show w.heap.size≤g7;omega) _).setCell (by show w.heap.size≤g7;omega) _,
  (((b6.set_ 0 x0).set_ 1 x1).far (p:=⟨g7,0,none⟩) (Ne.symm dL) y0).far (p:=⟨g7,1,none⟩) (Ne.symm dL) y1,(((b7.far (p:=⟨g6,0,none⟩) dL x0).far (p:=⟨g6,1,none⟩) dL x1).set_ 0 y0).set_ 1 y1,k4 d0 (by omega) (by omega),k4 d1 (by omega) (by omega)⟩
theorem Lx (m n:Nat) (w:World):Calls Tryz.prog 54 #[fq m,fq n] w fun e w'=>e=.returned (.bool (decide (m<n)))∧Below w.heap.size w w':=by
 have HV:Y0 ((m<n)↔_):=BE (m:=m) (n:=n) (K:=18446744073709551616) (by decide);have HD:=zh (Blk.new w 67 #[.int .u64 ((m/18446744073709551616:Nat):Int),.int .u64 ((m%18446744073709551616:Nat):Int)]);have cY:=zh ((Blk.new w 67 #[.int .u64 ((m/18446744073709551616:Nat):Int),.int .u64 ((m%18446744073709551616:Nat):Int)]).alloc (.cells #[.int .u64 ((n/18446744073709551616:Nat):Int),.int .u64 ((n%18446744073709551616:Nat):Int)] 67))
 have HB:=zh (((yB _ w).alloc (yA _) (.cells #[.int .u64 ((m/18446744073709551616:Nat):Int),.int .u64 ((m%18446744073709551616:Nat):Int)] 67)).alloc (by simp) (.cells #[.int .u64 ((n/18446744073709551616:Nat):Int),.int .u64 ((n%18446744073709551616:Nat):Int)] 67));unfold fq;generalize m/18446744073709551616=mh at*;generalize m%18446744073709551616=ml at*;generalize n/18446744073709551616=nh at*;generalize n%18446744073709551616=nl at*
 by_cases h1:mh<nh
 ·have d1:decide (mh<nh)=true:=yD h1;have HR:Y0 (decide (m<n)=true):=yD (HV.o.2 (.inl h1));clear h1;go_enter Tryz.func54,Tryz.ntmps54;go_wp2;go_ret;exact⟨Ze HR.o.symm,HB.o⟩
 have d1:decide (mh<nh)=false:=yC h1;by_cases h2:mh=nh
 ·subst h2;have HR:Y0 (decide (m<n)=decide (ml<nl)):=by
   unfold Y0;rw[Bool.eq_iff_iff,yO,yO,HV.o];omega
  clear h1;go_enter Tryz.func54,Tryz.ntmps54;go_wp2;go_ret;exact⟨Ze HR.o.symm,HB.o⟩
 have d2:((mh:Int)==(nh:Int))=false:=zb (by omega);have HR:Y0 (decide (m<n)=false):=yC (by rw[HV.o];omega);clear h1 h2;go_enter Tryz.func54,Tryz.ntmps54;go_wp2;go_ret;exact⟨Ze HR.o.symm,HB.o⟩
theorem XT (a b:FrT) (w:World) (ha:au a=true) (hb:au b=true) :
  Calls Tryz.prog 104 #[a.val,b.val] w fun e w'=>e=.returned (.int .i64 (iS a b))∧Below w.heap.size w w':=by
 have HX:=zh (Gt ha hb);obtain⟨a1,a2,a3,a4⟩:=ez ha;obtain⟨b1,b2,b3,b4⟩:=ez hb;have hDa:=fun W=>vC (n:=a.den) W (by omega) a2;have hDb:=fun W=>vC (n:=b.den) W (by omega) b2;have hSa:=fun W=>vC (n:=a.num) W a3 a4;have hSb:=fun W=>vC (n:=b.num) W b3 b4;have hP1:=fun W=>Qr (x:=a.num.natAbs) (y:=b.den.natAbs) W (by omega) (by omega);have hP2:=fun W=>Qr (x:=b.num.natAbs) (y:=a.den.natAbs) W (by omega) (by omega)
 clear ha hb a1 a2 a3 a4 b1 b2 b3 b4;generalize iS a b=cr at*;obtain⟨an,ad⟩:=a;obtain⟨bn,bd⟩:=b;simp only at*;have GD:=zh hSa;have HDa:=zh hDa;have HDb:=zh hDb;have vZ:=zh hSb;have Wy:=zh hP1;have Wx:=zh hP2;clear hSa hSb hP1 hP2 hDa hDb;have D0:=(Blk.new w 29 #[.int .i64 an,.int .i64 ad]).alloc (.cells #[.int .i64 bn,.int .i64 bd] 29);have D1:=Blk.new (w.alloc (.cells #[.int .i64 an,.int .i64 ad] 29)) 29 #[.int .i64 bn,.int .i64 bd]
 rw[yZ] at D1;have hB:=((yB _ w).alloc (yA _) (.cells #[.int .i64 an,.int .i64 ad] 29)).alloc (by simp) (.cells #[.int .i64 bn,.int .i64 bd] 29);have hs:((w.alloc (.cells #[.int .i64 an,.int .i64 ad] 29)).alloc (.cells #[.int .i64 bn,.int .i64 bd] 29)).heap.size=w.heap.size+1+1:=by simp
 go_enter Tryz.func104,Tryz.ntmps104;go_wp2_with (exact zX);generalize (w.alloc (.cells #[.int .i64 an,.int .i64 ad] 29)).alloc (.cells #[.int .i64 bn,.int .i64 bd] 29)=w3 at*;have D0:=zh D0;have D1:=zh D1;have HB:=zh hB;have Hs:Y0 (w.heap.size+1<w3.heap.size):=by unfold Y0;omega
 clear hB hs;have y0:=D0.o.cell 0;have y1:=D0.o.cell 1;have y2:=D1.o.cell 0;have y3:=D1.o.cell 1;simp only[aG,aH,aD] at y0 y1 y2 y3;have u0:=YL y0;have u1:=YL y1;have u2:=YL y2;have u3:=YL y3;clear y0 y1 y2 y3;refine dO 16 (fun jx=>if jx=2 then some (gV (.int .u64 (an.natAbs:Nat))) else if jx=5 then some (gV (.int .u64 (bd.natAbs:Nat))) else if jx=6 then some (gV (fq (an.natAbs*bd.natAbs))) else if jx=9 then some (gV (.int .u64 (bn.natAbs:Nat))) else if jx=12 then some (gV (.int .u64 (ad.natAbs:Nat))) else if jx=13 then some (gV (fq (bn.natAbs*ad.natAbs))) else if jx=14 then some (gU w3.heap.size) else if jx=15 then some (gU w3.heap.size) else none) [5,6] (by kernel_rfl) (by kernel_rfl) (by kernel_rfl) (nS rfl rfl) ?_
 simp only[aM,aP,aN,aO];refine zw 2 ?_;simp only[aM,aP,aN,aO]
 repeat (go_big_quiet_step (fail))
 refine YE ?_;refine ae rfl rfl (fun w1 _ _=>zc (GD.o w1)) ?_;rintro _ rfl;simp only[Act.put,aC,aB,aA];refine zw 2 ?_;simp only[aM,aP,aN,aO]
 repeat (go_big_quiet_step (fail))
 refine YE ?_;refine ae rfl rfl (fun w1 _ _=>zc (HDb.o w1)) ?_;rintro _ rfl;simp only[Act.put,aC,aB,aA];refine ae rfl rfl (fun w1 _ _=>zc (Wy.o w1)) ?_;rintro _ rfl;simp only[Act.put,aC,aB,aA];refine zw 2 ?_;simp only[aM,aP,aN,aO]
 repeat (go_big_quiet_step (fail))
 refine YE ?_;refine ae rfl rfl (fun w1 _ _=>zc (vZ.o w1)) ?_;rintro _ rfl;simp only[Act.put,aC,aB,aA];refine zw 2 ?_;simp only[aM,aP,aN,aO]
 repeat (go_big_quiet_step (fail))
 refine YE ?_;refine ae rfl rfl (fun w1 _ _=>zc (HDa.o w1)) ?_;rintro _ rfl;simp only[Act.put,aC,aB,aA];refine ae rfl rfl (fun w1 _ _=>zc (Wx.o w1)) ?_;rintro _ rfl;simp only[Act.put,aC,aB,aA];refine aV rfl rfl (fun w1 ak _=>Vh ak.size (by go_simp)) ?_;rintro _ ⟨g6,rfl⟩;simp only[Act.put,aC,aB,aA];refine aV rfl rfl (fun w1 ak _=>Vh ak.size (by go_simp)) ?_;rintro _ ⟨g7,rfl⟩;simp only[Act.put,aC,aB,aA]
 refine Zc ?_;intro w8 aJ hF hA;have h6:AtU w3.heap.size (.pointer (some ⟨g6,0,none⟩)) w8:=hF 5;have h7:AtU w3.heap.size (.pointer (some ⟨g7,0,none⟩)) w8:=hF 6;have K7:g7≠g6:=fun e=>(hA 5 (by simp) g6 rfl).2 6 (by simp) (by decide) (by rw[e];rfl);have D08:=D0.o.below aJ D0.o.lt;have D18:=D1.o.below aJ D1.o.lt;have B8:=HB.o.trans (aJ.mono HB.o.size);obtain⟨_,e6,l6,b6⟩:=h6;obtain⟨_,e7,l7,b7⟩:=h7;injection e6 with e6
 injection e6 with e6;injection e6 with e6 _ _;injection e7 with e7;injection e7 with e7;injection e7 with e7 _ _;subst e6 e7;have C6:=Hs.o;obtain⟨B9,p6,p7,p0,p1⟩:=Na B8 (by omega) (by omega) K7 b6 b7 D08 D18 (.int .u64 ((an.natAbs*bd.natAbs/18446744073709551616:Nat):Int)) (.int .u64 ((an.natAbs*bd.natAbs%18446744073709551616:Nat):Int)) (.int .u64 ((bn.natAbs*ad.natAbs/18446744073709551616:Nat):Int)) (.int .u64 ((bn.natAbs*ad.natAbs%18446744073709551616:Nat):Int)) rfl
 have kF:Y0 ((an<0→0≤bn→cr=-1)∧(0≤an→bn<0→cr=1)∧(0≤an→0≤bn→cr=tK (an.natAbs*bd.natAbs) (bn.natAbs*ad.natAbs))∧(an<0→bn<0→cr=tK (bn.natAbs*ad.natAbs) (an.natAbs*bd.natAbs))):=HX.o;have Z3:=b6.frozen 0;have Z2:=b6.frozen 1;have MK:=(b7.far (p:=⟨g6,0,none⟩) K7 (.int .u64 ((an.natAbs*bd.natAbs/18446744073709551616:Nat):Int))).far (p:=⟨g6,1,none⟩) K7 (.int .u64 ((an.natAbs*bd.natAbs%18446744073709551616:Nat):Int))
 have Wg:=MK.set_ 0 (.int .u64 ((bn.natAbs*ad.natAbs/18446744073709551616:Nat):Int));have f70:=MK.frozen 0;have f71:=Wg.frozen 1;have b70:=MK.cell 0;have Xm:=Wg.cell 1;have GU:=p6.cell 0;have GR:=p6.cell 1;have GQ:=p7.cell 0;have GN:=p7.cell 1;have XW:=p0.cell 0;have gL:=p1.cell 0;have b60:=b6.cell 0;have b61:=b6.cell 1;simp only[aC,aB] at Xm;simp only[aG,aH,aD] at GU GR GQ GN XW gL b60 b61 b70 Xm
 generalize an.natAbs*bd.natAbs=m at*;generalize bn.natAbs*ad.natAbs=n at*;have FO:=fun W=>Lx m n W;have Kz:=fun W=>Lx n m W;have tR:Y0 (m=n→((m/18446744073709551616:Nat):Int)=((n/18446744073709551616:Nat):Int)∧((m%18446744073709551616:Nat):Int)=((n%18446744073709551616:Nat):Int)):=fun h=>by subst h;exact⟨rfl,rfl⟩
 have iq:Y0 (m≠n→(((m/18446744073709551616:Nat):Int)==((n/18446744073709551616:Nat):Int))=false∨(((m%18446744073709551616:Nat):Int)==((n%18446744073709551616:Nat):Int))=false):=fun h=>by
  by_cases h1:m/18446744073709551616=n/18446744073709551616
  ·refine .inr (zb fun h2=>h ?_);have e1:=YI m 18446744073709551616;have e2:=YI n 18446744073709551616;rw[h1] at e1;omega
  exact .inl (zb fun h2=>h1 (by omega))
 unfold fq at*;generalize ((m/18446744073709551616:Nat):Int)=mh at*;generalize ((m%18446744073709551616:Nat):Int)=ml at*;generalize ((n/18446744073709551616:Nat):Int)=nh at*;generalize ((n%18446744073709551616:Nat):Int)=nl at*;have P6:=zh p6;have P7:=zh p7;have B9:=zh B9;clear MK Wg HX GD vZ HDa HDb Wy Wx K7 C6 Hs l6 l7 b6 b7 p6 p7 p0 p1 B8 D08 D18 hA hF aJ HB D0 D1 u0 u1 u2 u3;by_cases c0:an<0
 case' neg=>
  have d0:decide (an<0)=false:=yC c0;have e0:decide (0≤an)=true:=yD (by omega);by_cases cb:bn<0
  case' neg=>
   have d1:decide (bn<0)=false:=yC cb;have e1:decide (0≤bn)=true:=yD (by omega);have e9:=kF.o.2.2.1 (by omega) (by omega);have HF:Y0 ((m=n→cr=0)∧(decide (m<n)=true→cr=-1)∧(m≠n→decide (m<n)=false→cr=1)):=⟨fun h=>e9.trans (Db (by omega)),fun h=>e9.trans (CZ (yG h)),fun h0 h=>e9.trans (Da (by have:=of_decide_eq_false h;omega))⟩;clear c0 cb kF e9
  case pos=>
   have d1:decide (bn<0)=true:=yD cb;have e1:decide (0≤bn)=false:=yC (by omega);have DC:=kF.o.2.1 (by omega) cb;subst DC;clear kF;go_wp2_with fail;go_ret;exact⟨rfl,B9.o⟩
 case' pos=>
  have d0:decide (an<0)=true:=yD c0;have e0:decide (0≤an)=false:=yC (by omega);by_cases cb:bn<0
  case neg=>
   have d1:decide (bn<0)=false:=yC cb;have e1:decide (0≤bn)=true:=yD (by omega);have DC:=kF.o.1 c0 (by omega);subst DC;clear kF;go_wp2_with fail;go_ret;exact⟨rfl,B9.o⟩
  have d1:decide (bn<0)=true:=yD cb;have e1:decide (0≤bn)=false:=yC (by omega);have e9:=kF.o.2.2.2 c0 cb;have HF:Y0 ((m=n→cr=0)∧(decide (m<n)=true→cr=1)∧(m≠n→decide (m<n)=false→cr=-1)):=⟨fun h=>e9.trans (Db (by omega)),fun h=>e9.trans (Da (yG h)),fun h0 h=>e9.trans (CZ (by have:=of_decide_eq_false h;omega))⟩;clear c0 cb kF e9
 all_goals
  have Q10:=zh XW;by_cases D7:m=n
  ·obtain⟨rfl,rfl⟩:=tR.o D7;have DC:=HF.o.1 D7;subst DC;clear D7 tR iq HF Kz FO;go_wp2_with fail;go_ret;exact⟨rfl,B9.o⟩
  have jJ:=iq.o D7;have vxC:∀W,Calls Tryz.prog 54 #[.agg #[.int .u64 mh,.int .u64 ml],.agg #[.int .u64 nh,.int .u64 nl]] W fun e w'=>∃v,e=.returned v∧Below W.heap.size W w'∧(gV (.bool (decide (m<n)))).σ v∧(gV (.bool (decide (m<n)))).φ v w':=fun W=>(FO W).mono fun _ _ ⟨he,hb⟩=>⟨_,he,hb,rfl,trivial⟩;have Aw:Y0 ((decide (m<n)=true→_)∧(decide (m<n)=false→_)):=⟨HF.o.2.1,HF.o.2.2 D7⟩;have Hmn:=zh D7;generalize decide (m<n)=lt at*
  clear D7 tR iq HF Kz FO;have HLs:=zh vxC;clear vxC;rcases jJ with e1|e1
  all_goals
   go_wp2_with (exact zX);have u1:=YL GU;have u2:=YL GR;have u3:=YL GQ;have u4:=YL GN;have u5:=YL XW;clear GU GR GQ GN XW gL b60 b61 b70 Xm Z3 Z2 f70 f71;refine af 6 (fun jx=>if jx=2 then some (gV (.bool lt)) else none) (by kernel_rfl) (by kernel_rfl) ?_;simp only[aM,aP,aN,aO];refine zw 2 ?_;simp only[aM,aP,aN,aO]
   repeat (go_big_quiet_step (fail))
   refine YE ?_;refine ae rfl rfl (fun w1 _ _=>zc (HLs.o w1)) ?_;rintro _ rfl;simp only[Act.put,aC,aB,aA];refine zw 3 ?_;simp only[aM,aP,aN,aO]
   repeat (go_big_quiet_step (fail))
   refine YE ?_;refine Zc ?_;intro X4 t7 _;have hbz:=B9.o.trans (t7.mono B9.o.size);clear t7 u1 u2 u3 u4 u5;cases lt
   case' true=>have DC:=Aw.o.1 rfl
   case' false=>have DC:=Aw.o.2 rfl
   all_goals
    subst DC;go_wp2_with fail;go_ret;exact⟨rfl,hbz⟩
theorem qqr (a b:FrT) (w:World) (ha:au a=true) (hb:au b=true) (_:0≤b.num) :
  Calls Tryz.prog 104 #[a.val,b.val] w fun e w'=>e=.returned (.int .i64 (iS a b))∧Below w.heap.size w w':=XT a b w ha hb
