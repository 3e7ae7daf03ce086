/- Lemmas. -/
import Derived.Test.YtknkhnahflmjiaaGreatDoorV8
import Derived.Test.YtknkhnahflmjiaaGreatDoorW2
namespace Go.Proofs.YtknkhnahflmjiaaGreatDoor
set_option maxRecDepth 100000
set_option maxHeartbeats 40000000
open Go.RowKit Go.Shelf
theorem qx1 (x y:Nat):(x%4294967296*(y/4294967296)+(x/4294967296*(y%4294967296)+x%4294967296*(y%4294967296)/4294967296)%4294967296)*4294967296%18446744073709551616+x%4294967296*(y%4294967296)%4294967296=x*y%18446744073709551616:=by
 have e:x*y=(x/4294967296)*(y/4294967296)*(4294967296*4294967296)+((x/4294967296)*(y%4294967296)+(x%4294967296)*(y/4294967296))*4294967296+(x%4294967296)*(y%4294967296):=by
  rw[←Lib.split_mul,Nat.div_add_mod' x 4294967296,Nat.div_add_mod' y 4294967296]
 rw[e];generalize x/4294967296*(y/4294967296)=p;generalize x/4294967296*(y%4294967296)=q;generalize x%4294967296*(y/4294967296)=r;generalize x%4294967296*(y%4294967296)=s;omega
theorem II (n:Int) (w:World) (h1 : -1152921504606846976≤n) (h2:n≤1152921504606846976) :
  Calls Tryz.prog 95 #[.int .i64 n] w fun e w'=>e=.returned (.int .u64 (n.natAbs:Nat))∧w=w':=by
 by_cases h0:n<0
 ·have e1:IntKind.u64.wrap n=n+18446744073709551616:=by
   show n%18446744073709551616=_;omega
  have e2:Y0 (IntKind.u64.wrap (0-(n+18446744073709551616))=((n.natAbs:Nat):Int)):=by
   show (0-(n+18446744073709551616))%18446744073709551616=_;omega
  clear h1 h2;go_enter Tryz.func95,Tryz.ntmps95;go_wp2;go_ret;refine⟨?_,rfl⟩;rw[←e2.o,Int.zero_sub];rfl
 have e1:Y0 (IntKind.u64.wrap n=((n.natAbs:Nat):Int)):=by
  show n%18446744073709551616=_;omega
 clear h1 h2;go_enter Tryz.func95,Tryz.ntmps95;go_wp2;go_ret;refine⟨?_,rfl⟩;rw[←e1.o];rfl
theorem Nk (x y:Nat) (hx:x<18446744073709551616) (hy:y<18446744073709551616) (w:World) :
  Calls Tryz.prog 98 #[.int .u64 x,.int .u64 y] w fun e w'=>e=.returned (cF (x*y))∧Below w.heap.size w w':=by
 obtain⟨bd,bt,bw,Ri⟩:=Lib.mul64_hi x y hx hy;have qS:=qx1 x y;have ba:=Lib.half_mul_le (a:=x/4294967296) (b:=y/4294967296) (by omega) (by omega);have bb:=Lib.half_mul_le (a:=x/4294967296) (b:=y%4294967296) (by omega) (by omega);have bc:=Lib.half_mul_le (a:=x%4294967296) (b:=y/4294967296) (by omega) (by omega);have ba':x/4294967296*(y/4294967296)<18446744073709551616:=by omega
 have bb':x/4294967296*(y%4294967296)<18446744073709551616:=by omega
 have bc':x%4294967296*(y/4294967296)<18446744073709551616:=by omega
 have HB:=zh ((yB _ w).alloc (yA _) (.cells #[.int .u64 0,.int .u64 0] 133));go_enter Tryz.func98,Tryz.ntmps98;have bw':(x%4294967296*(y/4294967296)+(x/4294967296*(y%4294967296)+x%4294967296*(y%4294967296)/4294967296)%4294967296)<18446744073709551616:=by omega
 have qkB:x/4294967296*(y/4294967296)+(x/4294967296*(y%4294967296)+x%4294967296*(y%4294967296)/4294967296)/4294967296+(x%4294967296*(y/4294967296)+(x/4294967296*(y%4294967296)+x%4294967296*(y%4294967296)/4294967296)%4294967296)/4294967296=x*y/18446744073709551616:=by
  rw[Nat.add_comm (x%4294967296*(y/4294967296))];exact Ri
 have bh1:x/4294967296*(y/4294967296)+(x/4294967296*(y%4294967296)+x%4294967296*(y%4294967296)/4294967296)/4294967296<18446744073709551616:=by omega
 have bh:x/4294967296*(y/4294967296)+(x/4294967296*(y%4294967296)+x%4294967296*(y%4294967296)/4294967296)/4294967296+(x%4294967296*(y/4294967296)+(x/4294967296*(y%4294967296)+x%4294967296*(y%4294967296)/4294967296)%4294967296)/4294967296<18446744073709551616:=by omega
 have hsm:(x%4294967296*(y/4294967296)+(x/4294967296*(y%4294967296)+x%4294967296*(y%4294967296)/4294967296)%4294967296)*4294967296%18446744073709551616+x%4294967296*(y%4294967296)%4294967296<18446744073709551616:=by
  rw[qS];exact YJ _ (by decide)
 clear Ri bw;go_wp2;have hL:IntKind.u64.wrap (IntKind.u64.wrap ((((x%4294967296*(y/4294967296)+(x/4294967296*(y%4294967296)+x%4294967296*(y%4294967296)/4294967296)%4294967296):Nat):Int)*4294967296)+((x%4294967296*(y%4294967296)%4294967296:Nat):Int))=((x*y%18446744073709551616:Nat):Int):=by
  rw[show (((x%4294967296*(y/4294967296)+(x/4294967296*(y%4294967296)+x%4294967296*(y%4294967296)/4294967296)%4294967296):Nat):Int)*4294967296=(((x%4294967296*(y/4294967296)+(x/4294967296*(y%4294967296)+x%4294967296*(y%4294967296)/4294967296)%4294967296)*4294967296:Nat):Int) from (Int.natCast_mul _ 4294967296).symm,Mul64.wrapM,Mul64.addN,qS];exact Mul64.wrapN _ (YJ _ (by decide))
 simp only[Mul64.maskN x hx,Mul64.maskN y hy,Mul64.divN,Mul64.mulN,Mul64.addN,Mul64.wrapN _ bd,Mul64.wrapN _ bb',Mul64.wrapN _ bt,Mul64.maskN _ bt,Mul64.maskN _ bd,Mul64.wrapN _ bc',Mul64.wrapN _ bw',Mul64.wrapN _ ba',Mul64.wrapN _ bh1,Mul64.wrapN _ bh];simp only[hL,qkB];unfold cF;clear hL qkB qS bd bt bw' ba bb bc ba' bb' bc' bh1 bh hsm;generalize ((x*y/18446744073709551616:Nat):Int)=h;generalize ((x*y%18446744073709551616:Nat):Int)=l
 refine YF (v:=.agg #[.int .u64 h,.int .u64 l]) (by simp[results,Tryz.results98,go_sem]) rfl ?_;exact⟨rfl,(yB _ _).alloc (yA _) _⟩
theorem fp {n:Int} (w:World) (h1 : -1152921504606846976≤n) (h2:n≤1152921504606846976) :
  Calls Tryz.prog 95 #[.int .i64 n] w fun e w'=>∃v,e=.returned v∧Below w.heap.size w w'∧(gV (.int .u64 (n.natAbs:Nat))).σ v∧(gV (.int .u64 (n.natAbs:Nat))).φ v w' :=
 (II n w h1 h2).mono fun _ _ ⟨he,hw⟩=>⟨_,he,hw▸yB _ _,rfl,trivial⟩
theorem p5 {x y:Nat} (w:World) (hx:x<18446744073709551616) (hy:y<18446744073709551616) :
  Calls Tryz.prog 98 #[.int .u64 x,.int .u64 y] w fun e w'=>∃v,e=.returned v∧Below w.heap.size w w'∧(gV (uW (x*y))).σ v∧(gV (uW (x*y))).φ v w' :=
 (Nk x y hx hy w).mono fun _ _ ⟨he,hb⟩=>⟨_,he,hb,rfl,trivial⟩
theorem p9 (neg:Bool) (n d:Nat):∃x y z:Int,eK neg n d=.tuple #[.agg #[.int .i64 x,.int .i64 y],.int .i64 z]:=by
 unfold eK;by_cases h:n≤1152921504606846976∧d≤1152921504606846976
 ·exact⟨_,_,_,if_pos h⟩
 exact⟨_,_,_,if_neg h⟩
theorem zU {x y:Nat} (hx:x≤1152921504606846976) (hy:y≤1152921504606846976):x*y<2^127:=Nat.lt_of_le_of_lt (Nat.mul_le_mul hx hy) (by decide)
theorem Ng (a b:FrT) (w:World) (ha:aj a=true) (hb:aj b=true) :
  Calls Tryz.prog 109 #[a.val,b.val] w fun e w'=>e=.returned (bQ (aU a*aU b))∧Below w.heap.size w w':=by
 obtain⟨a1,a2,a3,a4⟩:=bB ha;obtain⟨b1,b2,b3,b4⟩:=bB hb;obtain⟨s1,E0⟩:∃s1,decide (a.num<0)=s1:=⟨_,rfl⟩;obtain⟨s2,Ij⟩:∃s2,decide (b.num<0)=s2:=⟨_,rfl⟩;have hN:a.num.natAbs*b.num.natAbs<2^127:=zU (by omega) (by omega);have hD:a.den.natAbs*b.den.natAbs<2^127:=zU (by omega) (by omega);have s9:0<a.den.natAbs*b.den.natAbs:=Nat.mul_pos (by omega) (by omega);have hq:bQ (aU a*aU b)=_:=GB (N:=a.num.natAbs*b.num.natAbs) (D:=a.den.natAbs*b.den.natAbs) (neg:=s1 != s2) s9 (by
  unfold aU;rw[Rat.mkRat_mul_mkRat];congr 1
  rw[←E0,←Ij,Int.natCast_mul];by_cases c1:a.num<0 <;> by_cases c2:b.num<0 <;> simp only[c1,c2,decide_true,decide_false,bne_self_eq_false,Bool.true_bne,Bool.false_bne,Bool.not_false,if_true,Bool.false_eq_true,if_false]
  ·rw[show (a.num.natAbs:Int)=-a.num by omega,show (b.num.natAbs:Int)=-b.num by omega,Int.neg_mul_neg]
  ·rw[show (a.num.natAbs:Int)=-a.num by omega,show (b.num.natAbs:Int)=b.num by omega,Int.neg_mul,Int.neg_neg]
  ·rw[show (a.num.natAbs:Int)=a.num by omega,show (b.num.natAbs:Int)=-b.num by omega,Int.mul_neg,Int.neg_neg]
  rw[show (a.num.natAbs:Int)=a.num by omega,show (b.num.natAbs:Int)=b.num by omega])
 have HM:=zh fun W=>zz _ _ (s1 != s2) W hN s9 hD;obtain⟨fx,fy,fz,hv⟩:=p9 (s1 != s2) (a.num.natAbs*b.num.natAbs/(a.num.natAbs*b.num.natAbs).gcd (a.den.natAbs*b.den.natAbs)) (a.den.natAbs*b.den.natAbs/(a.num.natAbs*b.num.natAbs).gcd (a.den.natAbs*b.den.natAbs));rw[hv] at HM hq;rw[hq];clear hq hv hN hD s9;have tv:=zh fun W=>fp (n:=a.num) W (by omega) (by omega);have gQ:=zh fun W=>fp (n:=b.num) W (by omega) (by omega)
 have mR:=zh fun W=>fp (n:=a.den) W (by omega) (by omega);have gF:=zh fun W=>fp (n:=b.den) W (by omega) (by omega);have Bn:=zh fun W=>p5 (x:=a.num.natAbs) (y:=b.num.natAbs) W (by omega) (by omega);have Bm:=zh fun W=>p5 (x:=a.den.natAbs) (y:=b.den.natAbs) W (by omega) (by omega);clear ha hb a1 a2 a3 a4 b1 b2 b3 b4;obtain⟨an,ad⟩:=a;obtain⟨bn,bd⟩:=b;simp only at*;generalize an.natAbs*bn.natAbs=N at*;generalize ad.natAbs*bd.natAbs=D at*
 have D0:=((Blk.new w 23 #[.int .i64 an,.int .i64 ad]).alloc (.cells #[.int .i64 bn,.int .i64 bd] 23)).alloc (.cells #[.int .i64 0,.int .i64 0] 23);have D1:=(Blk.new (w.alloc (.cells #[.int .i64 an,.int .i64 ad] 23)) 23 #[.int .i64 bn,.int .i64 bd]).alloc (.cells #[.int .i64 0,.int .i64 0] 23);have D2:=Blk.new ((w.alloc (.cells #[.int .i64 an,.int .i64 ad] 23)).alloc (.cells #[.int .i64 bn,.int .i64 bd] 23)) 23 #[.int .i64 0,.int .i64 0]
 have hB:=jh w (.cells #[.int .i64 an,.int .i64 ad] 23) (.cells #[.int .i64 bn,.int .i64 bd] 23) (.cells #[.int .i64 0,.int .i64 0] 23);simp only[World.size_alloc] at D1 D2;have D0:=zh D0;have D1:=zh D1;have D2:=zh D2;have HB:=zh hB;clear hB;go_enter Tryz.func109,Tryz.ntmps109;go_upto_region 1 with fail;generalize (((w.alloc (.cells #[.int .i64 an,.int .i64 ad] 23)).alloc (.cells #[.int .i64 bn,.int .i64 bd] 23)).alloc (.cells #[.int .i64 0,.int .i64 0] 23))=W1 at*
 have y0:=D0.o.cell 0;have y1:=D0.o.cell 1;have y2:=D1.o.cell 0;have y3:=D1.o.cell 1;simp only[aB,aD,aA] at y0 y1 y2 y3;have u0:=YL y0;have u1:=YL y1;have u2:=YL y2;have u3:=YL y3;clear y0 y1 y2 y3;refine af 24 (fun jx=>if jx=2 then some (gV (.int .u64 (an.natAbs:Nat))) else if jx=5 then some (gV (.int .u64 (bn.natAbs:Nat))) else if jx=6 then some (gV (uW N)) else if jx=16 then some (gV (.int .u64 (ad.natAbs:Nat))) else if jx=19 then some (gV (.int .u64 (bd.natAbs:Nat))) else if jx=20 then some (gV (uW D)) else if jx=21 then some (gV (.tuple #[.agg #[.int .i64 fx,.int .i64 fy],.int .i64 fz])) else none) (by kernel_rfl) (by kernel_rfl) ?_
 simp only[aO,aR,aP,aQ];refine zw 2 ?_;simp only[aO,aR,aP,aQ]
 repeat (go_big_quiet_step (fail))
 refine YE ?_;refine ae rfl rfl (fun w1 _ _=>zc (tv.o w1)) ?_;rintro _ rfl;simp only[Act.put,aw,av,au];refine zw 2 ?_;simp only[aO,aR,aP,aQ]
 repeat (go_big_quiet_step (fail))
 refine YE ?_;refine ae rfl rfl (fun w1 _ _=>zc (gQ.o w1)) ?_;rintro _ rfl;simp only[Act.put,aw,av,au];refine ae rfl rfl (fun w1 _ _=>zc (Bn.o w1)) ?_;rintro _ rfl;simp only[Act.put,aw,av,au];refine zw 9 ?_;simp only[aO,aR,aP,aQ]
 repeat (go_big_quiet_step (fail))
 refine YE ?_;refine ae rfl rfl (fun w1 _ _=>zc (mR.o w1)) ?_;rintro _ rfl;simp only[Act.put,aw,av,au];refine zw 2 ?_;simp only[aO,aR,aP,aQ]
 repeat (go_big_quiet_step (fail))
 refine YE ?_;refine ae rfl rfl (fun w1 _ _=>zc (gF.o w1)) ?_;rintro _ rfl;simp only[Act.put,aw,av,au];refine ae rfl rfl (fun w1 _ _=>zc (Bm.o w1)) ?_;rintro _ rfl;simp only[Act.put,aw,av,au];refine ae rfl rfl (fun w1 _ _=>⟨97,#[uW N,.bool (s1 != s2),uW D],by go_simp;cases s1 <;> cases s2 <;> rfl,(HM.o w1).mono fun _ _ ⟨he,hb⟩=>⟨_,he,hb,rfl,trivial⟩⟩) ?_;rintro _ rfl;simp only[Act.put,aw,av,au];refine zw 2 ?_
 simp only[aO,aR,aP,aQ]
 repeat (go_big_quiet_step (fail))
 refine YE ?_;refine Zc ?_;intro w4 bP hF;have lO:=D2.o.below bP D2.o.lt;have fj:=HB.o.trans (bP.mono HB.o.size);have q0:=lO.cell 0;have f0:=lO.frozen 0;have E1:=(lO.set_ 0 (.int .i64 fx));have f1:=E1.frozen 1;have E2:=E1.set_ 1 (.int .i64 fy);have p0:=E2.cell 0;have p1:=E2.cell 1;have r1:=E1.cell 1;simp only[aw,av,au] at p0 p1 r1;simp only[aB,aD,aA] at q0 p0 p1 r1;have dw:=zh ((fj.setCell (p:=⟨w.heap.size+1+1,0,none⟩) (by show w.heap.size≤w.heap.size+1+1;omega) (.int .i64 fx)).setCell (p:=⟨w.heap.size+1+1,1,none⟩) (by show w.heap.size≤w.heap.size+1+1;omega) (.int .i64 fy))
 clear lO fj E1 E2 HM hF u0 u1 u2 u3 D0 D1 D2 HB tv gQ mR gF Bn Bm;go_wp2_with fail;refine YF (v:=.tuple #[.agg #[.int .i64 fx,.int .i64 fy],.int .i64 fz]) (by simp[results,Tryz.results109,go_sem,p0,p1]) rfl ?_;exact⟨rfl,dw.o⟩
theorem IG (a b:FrT) (w:World) (ha:aj a=true) (hb:aj b=true) (h0:b.num≠0) :
  Calls Tryz.prog 52 #[a.val,b.val] w fun e w'=>e=.returned (bQ (aU a/aU b))∧Below w.heap.size w w':=by
 obtain⟨a1,a2,a3,a4⟩:=bB ha;obtain⟨b1,b2,b3,b4⟩:=bB hb;obtain⟨s1,E0⟩:∃s1,decide (a.num<0)=s1:=⟨_,rfl⟩;obtain⟨s2,Ij⟩:∃s2,decide (b.num<0)=s2:=⟨_,rfl⟩;have hN:a.num.natAbs*b.den.natAbs<2^127:=zU (by omega) (by omega);have hD:a.den.natAbs*b.num.natAbs<2^127:=zU (by omega) (by omega);have s9:0<a.den.natAbs*b.num.natAbs:=Nat.mul_pos (by omega) (by omega);have hq:bQ (aU a/aU b)=_:=GB (N:=a.num.natAbs*b.den.natAbs) (D:=a.den.natAbs*b.num.natAbs) (neg:=s1 != s2) s9 (by
  rw[Rat.div_def,←(QL hb h0).2];unfold CN;unfold aU;by_cases c2:b.num<0
  ·rw[if_pos c2];simp only;rw[Rat.mkRat_mul_mkRat];congr 1
   ·rw[←E0,←Ij,Int.natCast_mul,show (b.den.natAbs:Int)=b.den by omega];by_cases c1:a.num<0
    ·simp only[c1,c2,decide_true,bne_self_eq_false,Bool.false_eq_true,if_false];rw[show (a.num.natAbs:Int)=-a.num by omega,Int.neg_mul,Int.mul_neg]
    simp only[c1,c2,decide_true,decide_false,Bool.false_bne,if_true];rw[show (a.num.natAbs:Int)=a.num by omega,Int.mul_neg]
   rw[Int.natAbs_neg]
  rw[if_neg c2];simp only;rw[Rat.mkRat_mul_mkRat];congr 1
  rw[←E0,←Ij,Int.natCast_mul,show (b.den.natAbs:Int)=b.den by omega];by_cases c1:a.num<0
  ·simp only[c1,c2,decide_true,decide_false,Bool.true_bne,Bool.not_false,if_true];rw[show (a.num.natAbs:Int)=-a.num by omega,Int.neg_mul,Int.neg_neg]
  simp only[c1,c2,decide_false,bne_self_eq_false,Bool.false_eq_true,if_false];rw[show (a.num.natAbs:Int)=a.num by omega])
 have HM:=zh fun W=>zz _ _ (s1 != s2) W hN s9 hD;obtain⟨fx,fy,fz,hv⟩:=p9 (s1 != s2) (a.num.natAbs*b.den.natAbs/(a.num.natAbs*b.den.natAbs).gcd (a.den.natAbs*b.num.natAbs)) (a.den.natAbs*b.num.natAbs/(a.num.natAbs*b.den.natAbs).gcd (a.den.natAbs*b.num.natAbs));rw[hv] at HM hq;rw[hq];clear hq hv hN hD s9;have tv:=zh fun W=>fp (n:=a.num) W (by omega) (by omega);have gQ:=zh fun W=>fp (n:=b.den) W (by omega) (by omega)
 have mR:=zh fun W=>fp (n:=a.den) W (by omega) (by omega);have gF:=zh fun W=>fp (n:=b.num) W (by omega) (by omega);have Bn:=zh fun W=>p5 (x:=a.num.natAbs) (y:=b.den.natAbs) W (by omega) (by omega);have Bm:=zh fun W=>p5 (x:=a.den.natAbs) (y:=b.num.natAbs) W (by omega) (by omega);clear ha hb a1 a2 a3 a4 b1 b2 b3 b4;obtain⟨an,ad⟩:=a;obtain⟨bn,bd⟩:=b;simp only at*;generalize an.natAbs*bd.natAbs=N at*;generalize ad.natAbs*bn.natAbs=D at*
 have D0:=((Blk.new w 23 #[.int .i64 an,.int .i64 ad]).alloc (.cells #[.int .i64 bn,.int .i64 bd] 23)).alloc (.cells #[.int .i64 0,.int .i64 0] 23);have D1:=(Blk.new (w.alloc (.cells #[.int .i64 an,.int .i64 ad] 23)) 23 #[.int .i64 bn,.int .i64 bd]).alloc (.cells #[.int .i64 0,.int .i64 0] 23);have D2:=Blk.new ((w.alloc (.cells #[.int .i64 an,.int .i64 ad] 23)).alloc (.cells #[.int .i64 bn,.int .i64 bd] 23)) 23 #[.int .i64 0,.int .i64 0]
 have hB:=jh w (.cells #[.int .i64 an,.int .i64 ad] 23) (.cells #[.int .i64 bn,.int .i64 bd] 23) (.cells #[.int .i64 0,.int .i64 0] 23);simp only[World.size_alloc] at D1 D2;have D0:=zh D0;have D1:=zh D1;have D2:=zh D2;have HB:=zh hB;clear hB;go_enter Tryz.func52,Tryz.ntmps52;go_upto_region 1 with fail;generalize (((w.alloc (.cells #[.int .i64 an,.int .i64 ad] 23)).alloc (.cells #[.int .i64 bn,.int .i64 bd] 23)).alloc (.cells #[.int .i64 0,.int .i64 0] 23))=W1 at*
 have y0:=D0.o.cell 0;have y1:=D0.o.cell 1;have y2:=D1.o.cell 0;have y3:=D1.o.cell 1;simp only[aB,aD,aA] at y0 y1 y2 y3;have u0:=YL y0;have u1:=YL y1;have u2:=YL y2;have u3:=YL y3;clear y0 y1 y2 y3;refine af 24 (fun jx=>if jx=2 then some (gV (.int .u64 (an.natAbs:Nat))) else if jx=5 then some (gV (.int .u64 (bd.natAbs:Nat))) else if jx=6 then some (gV (uW N)) else if jx=16 then some (gV (.int .u64 (ad.natAbs:Nat))) else if jx=19 then some (gV (.int .u64 (bn.natAbs:Nat))) else if jx=20 then some (gV (uW D)) else if jx=21 then some (gV (.tuple #[.agg #[.int .i64 fx,.int .i64 fy],.int .i64 fz])) else none) (by kernel_rfl) (by kernel_rfl) ?_
 simp only[aO,aR,aP,aQ];refine zw 2 ?_;simp only[aO,aR,aP,aQ]
 repeat (go_big_quiet_step (fail))
 refine YE ?_;refine ae rfl rfl (fun w1 _ _=>zc (tv.o w1)) ?_;rintro _ rfl;simp only[Act.put,aw,av,au];refine zw 2 ?_;simp only[aO,aR,aP,aQ]
 repeat (go_big_quiet_step (fail))
 refine YE ?_;refine ae rfl rfl (fun w1 _ _=>zc (gQ.o w1)) ?_;rintro _ rfl;simp only[Act.put,aw,av,au];refine ae rfl rfl (fun w1 _ _=>zc (Bn.o w1)) ?_;rintro _ rfl;simp only[Act.put,aw,av,au];refine zw 9 ?_;simp only[aO,aR,aP,aQ]
 repeat (go_big_quiet_step (fail))
 refine YE ?_;refine ae rfl rfl (fun w1 _ _=>zc (mR.o w1)) ?_;rintro _ rfl;simp only[Act.put,aw,av,au];refine zw 2 ?_;simp only[aO,aR,aP,aQ]
 repeat (go_big_quiet_step (fail))
 refine YE ?_;refine ae rfl rfl (fun w1 _ _=>zc (gF.o w1)) ?_;rintro _ rfl;simp only[Act.put,aw,av,au];refine ae rfl rfl (fun w1 _ _=>zc (Bm.o w1)) ?_;rintro _ rfl;simp only[Act.put,aw,av,au];refine ae rfl rfl (fun w1 _ _=>⟨97,#[uW N,.bool (s1 != s2),uW D],by go_simp;cases s1 <;> cases s2 <;> rfl,(HM.o w1).mono fun _ _ ⟨he,hb⟩=>⟨_,he,hb,rfl,trivial⟩⟩) ?_;rintro _ rfl;simp only[Act.put,aw,av,au];refine zw 2 ?_
 simp only[aO,aR,aP,aQ]
 repeat (go_big_quiet_step (fail))
 refine YE ?_;refine Zc ?_;intro w4 bP hF;have lO:=D2.o.below bP D2.o.lt;have fj:=HB.o.trans (bP.mono HB.o.size);have q0:=lO.cell 0;have f0:=lO.frozen 0;have E1:=(lO.set_ 0 (.int .i64 fx));have f1:=E1.frozen 1;have E2:=E1.set_ 1 (.int .i64 fy);have p0:=E2.cell 0;have p1:=E2.cell 1;have r1:=E1.cell 1;simp only[aw,av,au] at p0 p1 r1;simp only[aB,aD,aA] at q0 p0 p1 r1;have dw:=zh ((fj.setCell (p:=⟨w.heap.size+1+1,0,none⟩) (by show w.heap.size≤w.heap.size+1+1;omega) (.int .i64 fx)).setCell (p:=⟨w.heap.size+1+1,1,none⟩) (by show w.heap.size≤w.heap.size+1+1;omega) (.int .i64 fy))
 clear lO fj E1 E2 HM hF u0 u1 u2 u3 D0 D1 D2 HB tv gQ mR gF Bn Bm;go_wp2_with fail;refine YF (v:=.tuple #[.agg #[.int .i64 fx,.int .i64 fy],.int .i64 fz]) (by simp[results,Tryz.results52,go_sem,p0,p1]) rfl ?_;exact⟨rfl,dw.o⟩
theorem RD {n d:Int} (h1:¬d<1) (h2:¬1152921504606846976<d) (h3:¬n < -1152921504606846976) (h4:¬1152921504606846976<n):aj ⟨n,d⟩=(((Nat.gcd n.natAbs d.natAbs:Nat):Int)==1):=by
 unfold aj;simp only[];rw[yD (show 1≤d by omega),yD (show d≤1152921504606846976 by omega),yD (show -1152921504606846976≤n by omega),yD (show n≤1152921504606846976 by omega)];rfl
theorem qY {n d:Int} (h:d<1∨1152921504606846976<d∨n < -1152921504606846976∨1152921504606846976<n):aj ⟨n,d⟩=false:=by
 unfold aj;simp only[];rcases h with h|h|h|h
 ·rw[yC (show ¬1≤d by omega)];rfl
 ·rw[yC (show ¬d≤1152921504606846976 by omega),Bool.and_false];rfl
 ·rw[yC (show ¬ -1152921504606846976≤n by omega),Bool.and_false];rfl
 rw[yC (show ¬n≤1152921504606846976 by omega),Bool.and_false];rfl
abbrev uS (x:Nat):Value:=.agg #[.int .u64 0,.int .u64 (x:Int)]
theorem MK {x:Nat} (h:x≤1152921504606846976):uW x=uS x:=by
 obtain⟨h0,h1⟩:=QB h;unfold uW uS;rw[h0,h1]
theorem vwj (a b:Nat) (w:World) (ha:a≤1152921504606846976) (gj:0<b) (hb:b≤1152921504606846976):Calls Tryz.prog 94 #[uS a,uS b] w fun e w'=>e=.returned (uS (Nat.gcd a b))∧Below w.heap.size w w':=by
 have h:=Nh a b w (Nat.lt_of_le_of_lt ha (by decide)) gj (Nat.lt_of_le_of_lt hb (by decide));rw[MK ha,MK hb,MK (yH (Nat.gcd_le_right _ gj) hb)] at h;exact h
theorem qzb {f:FuncId} {args:Array Value} {u:Value} {w:World} (h:Calls Tryz.prog f args w fun e w'=>e=.returned u∧Below w.heap.size w w'):Calls Tryz.prog f args w fun e w'=>∃v,e=.returned v∧Below w.heap.size w w'∧(gV u).σ v∧(gV u).φ v w' :=
 h.mono fun _ _ hp=>⟨_,hp.1,hp.2,rfl,trivial⟩
theorem uK (x:FrT) (w:World):Calls Tryz.prog 45 #[x.val] w fun e w'=>e=.returned (.bool (aj x))∧Below w.heap.size w w':=by
 obtain⟨n,d⟩:=x;have HB:=zh ((yB _ w).alloc (yA _) (.cells #[.int .i64 n,.int .i64 d] 23));have HD:=zh (Blk.new w 23 #[.int .i64 n,.int .i64 d]);go_enter Tryz.func45,Tryz.ntmps45;go_upto_region 1 with fail;generalize w.alloc (.cells #[.int .i64 n,.int .i64 d] 23)=W1 at*;obtain⟨y0,y1⟩:=HD.o.c2;by_cases c0:d<1
 ·have d0:decide (d<1)=true:=yD c0;have HV:Y0 (aj ⟨n,d⟩=false):=qY (.inl c0);go_wp2_with fail;go_ret;exact⟨Ze HV.o.symm,HB.o⟩
 have d0:decide (d<1)=false:=yC c0;by_cases c1:1152921504606846976<d
 ·have d1:decide (1152921504606846976<d)=true:=yD c1;have HV:Y0 (aj ⟨n,d⟩=false):=qY (.inr (.inl c1));go_wp2_with fail;go_ret;exact⟨Ze HV.o.symm,HB.o⟩
 have d1:decide (1152921504606846976<d)=false:=yC c1;by_cases c2:n < -1152921504606846976
 ·have d2:decide (n < -1152921504606846976)=true:=yD c2;have HV:Y0 (aj ⟨n,d⟩=false):=qY (.inr (.inr (.inl c2)));go_wp2_with fail;go_ret;exact⟨Ze HV.o.symm,HB.o⟩
 have d2:decide (n < -1152921504606846976)=false:=yC c2;by_cases c3:1152921504606846976<n
 ·have d3:decide (1152921504606846976<n)=true:=yD c3;have HV:Y0 (aj ⟨n,d⟩=false):=qY (.inr (.inr (.inr c3)));go_wp2_with fail;go_ret;exact⟨Ze HV.o.symm,HB.o⟩
 have d3:decide (1152921504606846976<n)=false:=yC c3;have HV:=zh (RD c0 c1 c2 c3);have xU : -1152921504606846976≤n:=by omega
 have Ew:n≤1152921504606846976:=by omega
 have qo : -1152921504606846976≤d:=by omega
 have mA:d≤1152921504606846976:=by omega
 have HGc:=zh (fun W=>vwj n.natAbs d.natAbs W (by omega) (by omega) (by omega));clear c0 c1 c2 c3;go_upto_region 3 with fail;have wP:=YL y0;have wO:=YL y1;clear y0 y1;refine af 10 (fun jx=>if jx=2 then some (gV (.int .u64 (n.natAbs:Nat))) else if jx=6 then some (gV (.int .u64 (d.natAbs:Nat))) else if jx=8 then some (gV (uS (Nat.gcd n.natAbs d.natAbs))) else none) (by kernel_rfl) (by kernel_rfl) ?_
 simp only[aO,aR,aP,aQ];refine zw 2 ?_;simp only[aO,aR,aP,aQ]
 repeat (go_big_quiet_step (fail))
 refine YE ?_;refine ae rfl rfl ?_ ?_
 ·intro w1 ak hk;have hC:=fp (n:=n) w1 xU Ew;exact zc hC
 rintro _ rfl;simp only[Act.put,aw,av,au];refine zw 3 ?_;simp only[aO,aR,aP,aQ]
 repeat (go_big_quiet_step (fail))
 refine YE ?_;refine ae rfl rfl ?_ ?_
 ·intro w1 ak hk;have hC:=fp (n:=d) w1 qo mA;exact zc hC
 rintro _ rfl;simp only[Act.put,aw,av,au];refine zw 1 ?_;simp only[aO,aR,aP,aQ]
 repeat (go_big_quiet_step (fail))
 refine YE ?_;refine ae rfl rfl ?_ ?_
 ·intro w1 ak hk;have hC:=qzb (HGc.o w1);exact zc hC
 rintro _ rfl;simp only[Act.put,aw,av,au];refine zw 1 ?_;simp only[aO,aR,aP,aQ]
 repeat (go_big_quiet_step (fail))
 refine YE ?_;refine Zc ?_;intro w8 aT hF;have eG:=zh (HB.o.trans (aT.mono HB.o.size));clear hF aT wP wO HGc;generalize Nat.gcd n.natAbs d.natAbs=g at*;obtain⟨q,hq⟩:∃q,((g:Int)==1)=q:=⟨_,rfl⟩;rw[hq] at HV;cases q
 all_goals
  go_wp2_with fail;go_ret;exact⟨Ze HV.o.symm,eG.o⟩
theorem YP (m:Int) (w:World):Calls Tryz.prog 53 #[.int .i64 m] w fun e w'=>e=.returned (.agg #[.int .i64 m,.int .i64 1])∧Below w.heap.size w w':=by
 go_enter Tryz.func53,Tryz.ntmps53;go_wp2_with fail;refine YF (v:=.agg #[.int .i64 m,.int .i64 1]) (by simp[results,Tryz.results53,go_sem]) rfl ?_;exact⟨rfl,(yB _ _).alloc (yA _) _⟩
theorem K5 (a:FrT) (m:Int) (w:World) (ha:aj a=true) (h0:0<a.num) (hm:1≤m∧m≤67108864) :
  Calls Tryz.prog 13 #[a.val,.int .i64 m] w fun e w'=>e=.returned (bQ (aU ⟨m,1⟩/aU a))∧Below w.heap.size w w':=by
 have jA:=fun W=>uK a W;rw[ha] at jA;have hM:=fun W=>IG ⟨m,1⟩ a W (vT (by omega) (by omega)) ha (by omega);obtain⟨fx,fy,fz,hf⟩:=cX (aU ⟨m,1⟩/aU a);rw[hf] at hM⊢;have HM:=zh hM;have HO:=zh fun W=>YP m W;have d1:decide (m<1)=false:=yC (by omega);have d2:decide (67108864<m)=false:=yC (by omega);have d3:decide (a.num<0)=false:=yC (by omega);have d4:(a.num==0)=false:=zb (by omega);clear ha h0 hm hf hM;obtain⟨an,ad⟩:=a
 simp only at*;have D0:=(Blk.new w 23 #[.int .i64 an,.int .i64 ad]).alloc (.cells #[.int .i64 0,.int .i64 0] 23);have D1:=Blk.new (w.alloc (.cells #[.int .i64 an,.int .i64 ad] 23)) 23 #[.int .i64 0,.int .i64 0];have hB:=((yB _ w).alloc (yA _) (.cells #[.int .i64 an,.int .i64 ad] 23)).alloc (by simp) (.cells #[.int .i64 0,.int .i64 0] 23);rw[yZ] at D1;go_enter Tryz.func13,Tryz.ntmps13;go_wp2_with fail
 generalize (w.alloc (.cells #[.int .i64 an,.int .i64 ad] 23)).alloc (.cells #[.int .i64 0,.int .i64 0] 23)=W1 at*;refine (jA W1).mono ?_;rintro e w2 ⟨rfl,bg⟩;have D0:=zh (D0.below bg D0.lt);have D1:=zh (D1.below bg D1.lt);have HB:=zh (hB.trans (bg.mono hB.size));clear bg hB jA;obtain⟨y0,y1⟩:=D0.o.c2;go_wp2_with (exact zX);have u0:=YL y0;have u1:=YL y1;clear y0 y1;refine af 6 (fun jx=>if jx=1 then some (gV (.agg #[.int .i64 m,.int .i64 1])) else if jx=3 then some (gV (.tuple #[.agg #[.int .i64 fx,.int .i64 fy],.int .i64 fz])) else none) (by kernel_rfl) (by kernel_rfl) ?_
 simp only[aO,aR,aP,aQ];refine zw 1 ?_;simp only[aO,aR,aP,aQ]
 repeat (go_big_quiet_step (fail))
 refine YE ?_;refine ae rfl rfl (fun w1 _ _=>⟨53,#[.int .i64 m],by go_simp,(HO.o w1).mono fun _ _ ⟨he,hb⟩=>⟨_,he,hb,rfl,trivial⟩⟩) ?_;rintro _ rfl;simp only[Act.put,aw,av,au];refine zw 1 ?_;simp only[aO,aR,aP,aQ]
 repeat (go_big_quiet_step (fail))
 refine YE ?_;refine ae rfl rfl (fun w1 _ _=>⟨52,#[.agg #[.int .i64 m,.int .i64 1],.agg #[.int .i64 an,.int .i64 ad]],by go_simp,(HM.o w1).mono fun _ _ ⟨he,hb⟩=>⟨_,he,hb,rfl,trivial⟩⟩) ?_;rintro _ rfl;simp only[Act.put,aw,av,au];refine zw 2 ?_;simp only[aO,aR,aP,aQ]
 repeat (go_big_quiet_step (fail))
 refine YE ?_;refine Zc ?_;intro w4 bP hF;have lO:=D1.o.below bP D1.o.lt;have fj:=HB.o.trans (bP.mono HB.o.size);have q0:=lO.cell 0;have f0:=lO.frozen 0;have E1:=(lO.set_ 0 (.int .i64 fx));have f1:=E1.frozen 1;have E2:=E1.set_ 1 (.int .i64 fy);have p0:=E2.cell 0;have p1:=E2.cell 1;have r1:=E1.cell 1;simp only[aw,av,au] at p0 p1 r1;simp only[aB,aD,aA] at q0 p0 p1 r1;have dw:=zh ((fj.setCell (p:=⟨w.heap.size+1,0,none⟩) (by show w.heap.size≤w.heap.size+1;omega) (.int .i64 fx)).setCell (p:=⟨w.heap.size+1,1,none⟩) (by show w.heap.size≤w.heap.size+1;omega) (.int .i64 fy))
 clear lO fj E1 E2 HM HO hF u0 u1;go_wp2_with fail;refine YF (v:=.tuple #[.agg #[.int .i64 fx,.int .i64 fy],.int .i64 fz]) (by simp[results,Tryz.results13,go_sem,p0,p1]) rfl ?_;exact⟨rfl,dw.o⟩
theorem BN (a:FrT) (m:Int) (w:World):Calls Tryz.prog 13 #[a.val,.int .i64 m] w fun e w'=>e=.returned (fu a m)∧Below w.heap.size w w':=by
 by_cases hz:fw a m=0
 ·obtain⟨h1,h2,h3,h4⟩:=Aw hz;have h:=K5 a m w h1 h2 ⟨h3,h4⟩;unfold fu;rw[if_pos hz];exact h
 have jA:=fun W=>uK a W;have D0:=(Blk.new w 23 #[.int .i64 a.num,.int .i64 a.den]).alloc (.cells #[.int .i64 0,.int .i64 0] 23);have D1:=Blk.new (w.alloc (.cells #[.int .i64 a.num,.int .i64 a.den] 23)) 23 #[.int .i64 0,.int .i64 0];have HB:=zh (((yB _ w).alloc (yA _) (.cells #[.int .i64 a.num,.int .i64 a.den] 23)).alloc (by simp) (.cells #[.int .i64 0,.int .i64 0] 23));rw[yZ] at D1;cases h0:aj a
 ·have HV:Y0 (fu a m=.tuple #[.agg #[.int .i64 0,.int .i64 0],.int .i64 1]):=by
   have e:fw a m=1:=by unfold fw;rw[if_neg (by rw[h0];decide)]
   unfold Y0 fu;rw[if_neg hz,e]
  rw[h0] at jA;generalize fu a m=fv at*;clear hz h0;obtain⟨an,ad⟩:=a;simp only at*;go_enter Tryz.func13,Tryz.ntmps13;go_wp2_with (first|(go_at_call 45;refine (jA _).mono ?_;rintro e w2 ⟨rfl,bg⟩;have D0:=D0.below bg D0.lt;have D1:=D1.below bg D1.lt;have HB:=zh (HB.o.trans (bg.mono HB.o.size));have y0:=D0.cell 0;have r0:=D1.cell 0;have r1:=D1.cell 1;have f0:=D1.frozen 0;have E1:=D1.set_ 0 (.int .i64 0);have Um:=E1.cell 1;have f1:=E1.frozen 1;have E2:=E1.set_ 1 (.int .i64 0);have p0:=E2.cell 0;have p1:=E2.cell 1;have dw:=zh ((HB.o.setCell (p:=⟨w.heap.size+1,0,none⟩) (YH _) (.int .i64 0)).setCell (p:=⟨w.heap.size+1,1,none⟩) (YH _) (.int .i64 0));simp only[aw,av,au,aB,aD,aA] at y0 r0 r1 Um p0 p1))
  refine YF (v:=.tuple #[.agg #[.int .i64 0,.int .i64 0],.int .i64 1]) (by simp[results,Tryz.results13,go_sem,p0,p1]) rfl ?_;exact⟨by rw[HV.o],dw.o⟩
 rw[h0] at jA;by_cases c:1≤m∧m≤67108864∧0≤a.num
 ·have hn:a.num=0:=by
   unfold fw at hz;rw[if_pos h0,if_pos c] at hz;split at hz
   ·assumption
   exact absurd rfl hz
  have HV:Y0 (fu a m=.tuple #[.agg #[.int .i64 0,.int .i64 0],.int .i64 16]):=by
   have e:fw a m=16:=by unfold fw;rw[if_pos h0,if_pos c,if_pos hn]
   unfold Y0 fu;rw[if_neg hz,e]
  have d1:decide (m<1)=false:=yC (by omega);have d2:decide (67108864<m)=false:=yC (by omega);have d3:decide (a.num<0)=false:=yC (by omega);have d4:(a.num==0)=true:=beq_iff_eq.2 hn;generalize fu a m=fv at*;clear hz h0 c;obtain⟨an,ad⟩:=a;simp only at*;subst hn;go_enter Tryz.func13,Tryz.ntmps13;go_wp2_with (first|(go_at_call 45;refine (jA _).mono ?_;rintro e w2 ⟨rfl,bg⟩;have D0:=D0.below bg D0.lt;have D1:=D1.below bg D1.lt;have HB:=zh (HB.o.trans (bg.mono HB.o.size));have y0:=D0.cell 0;have r0:=D1.cell 0;have r1:=D1.cell 1;have f0:=D1.frozen 0;have E1:=D1.set_ 0 (.int .i64 0);have Um:=E1.cell 1;have f1:=E1.frozen 1;have E2:=E1.set_ 1 (.int .i64 0);have p0:=E2.cell 0;have p1:=E2.cell 1;have dw:=zh ((HB.o.setCell (p:=⟨w.heap.size+1,0,none⟩) (YH _) (.int .i64 0)).setCell (p:=⟨w.heap.size+1,1,none⟩) (YH _) (.int .i64 0));simp only[aw,av,au,aB,aD,aA] at y0 r0 r1 Um p0 p1))
  refine YF (v:=.tuple #[.agg #[.int .i64 0,.int .i64 0],.int .i64 16]) (by simp[results,Tryz.results13,go_sem,p0,p1]) rfl ?_;exact⟨by rw[HV.o],dw.o⟩
 have HV:Y0 (fu a m=.tuple #[.agg #[.int .i64 0,.int .i64 0],.int .i64 2]):=by
  have e:fw a m=2:=by unfold fw;rw[if_pos h0,if_neg c]
  unfold Y0 fu;rw[if_neg hz,e]
 generalize fu a m=fv at*;clear hz h0;obtain⟨an,ad⟩:=a;simp only at*;by_cases c1:m<1
 ·have d1:decide (m<1)=true:=yD c1;clear c;go_enter Tryz.func13,Tryz.ntmps13;go_wp2_with (first|(go_at_call 45;refine (jA _).mono ?_;rintro e w2 ⟨rfl,bg⟩;have D0:=D0.below bg D0.lt;have D1:=D1.below bg D1.lt;have HB:=zh (HB.o.trans (bg.mono HB.o.size));have y0:=D0.cell 0;have r0:=D1.cell 0;have r1:=D1.cell 1;have f0:=D1.frozen 0;have E1:=D1.set_ 0 (.int .i64 0);have Um:=E1.cell 1;have f1:=E1.frozen 1;have E2:=E1.set_ 1 (.int .i64 0);have p0:=E2.cell 0;have p1:=E2.cell 1;have dw:=zh ((HB.o.setCell (p:=⟨w.heap.size+1,0,none⟩) (YH _) (.int .i64 0)).setCell (p:=⟨w.heap.size+1,1,none⟩) (YH _) (.int .i64 0));simp only[aw,av,au,aB,aD,aA] at y0 r0 r1 Um p0 p1))
  refine YF (v:=.tuple #[.agg #[.int .i64 0,.int .i64 0],.int .i64 2]) (by simp[results,Tryz.results13,go_sem,p0,p1]) rfl ?_;exact⟨by rw[HV.o],dw.o⟩
 by_cases c2:67108864<m
 ·have d1:decide (m<1)=false:=yC c1;have d2:decide (67108864<m)=true:=yD c2;clear c;go_enter Tryz.func13,Tryz.ntmps13;go_wp2_with (first|(go_at_call 45;refine (jA _).mono ?_;rintro e w2 ⟨rfl,bg⟩;have D0:=D0.below bg D0.lt;have D1:=D1.below bg D1.lt;have HB:=zh (HB.o.trans (bg.mono HB.o.size));have y0:=D0.cell 0;have r0:=D1.cell 0;have r1:=D1.cell 1;have f0:=D1.frozen 0;have E1:=D1.set_ 0 (.int .i64 0);have Um:=E1.cell 1;have f1:=E1.frozen 1;have E2:=E1.set_ 1 (.int .i64 0);have p0:=E2.cell 0;have p1:=E2.cell 1;have dw:=zh ((HB.o.setCell (p:=⟨w.heap.size+1,0,none⟩) (YH _) (.int .i64 0)).setCell (p:=⟨w.heap.size+1,1,none⟩) (YH _) (.int .i64 0));simp only[aw,av,au,aB,aD,aA] at y0 r0 r1 Um p0 p1))
  refine YF (v:=.tuple #[.agg #[.int .i64 0,.int .i64 0],.int .i64 2]) (by simp[results,Tryz.results13,go_sem,p0,p1]) rfl ?_;exact⟨by rw[HV.o],dw.o⟩
 have d1:decide (m<1)=false:=yC c1;have d2:decide (67108864<m)=false:=yC c2;have d3:decide (an<0)=true:=yD (by omega);clear c c1 c2;go_enter Tryz.func13,Tryz.ntmps13;go_wp2_with (first|(go_at_call 45;refine (jA _).mono ?_;rintro e w2 ⟨rfl,bg⟩;have D0:=D0.below bg D0.lt;have D1:=D1.below bg D1.lt;have HB:=zh (HB.o.trans (bg.mono HB.o.size));have y0:=D0.cell 0;have r0:=D1.cell 0;have r1:=D1.cell 1;have f0:=D1.frozen 0;have E1:=D1.set_ 0 (.int .i64 0);have Um:=E1.cell 1;have f1:=E1.frozen 1;have E2:=E1.set_ 1 (.int .i64 0);have p0:=E2.cell 0;have p1:=E2.cell 1;have dw:=zh ((HB.o.setCell (p:=⟨w.heap.size+1,0,none⟩) (YH _) (.int .i64 0)).setCell (p:=⟨w.heap.size+1,1,none⟩) (YH _) (.int .i64 0));simp only[aw,av,au,aB,aD,aA] at y0 r0 r1 Um p0 p1))
 refine YF (v:=.tuple #[.agg #[.int .i64 0,.int .i64 0],.int .i64 2]) (by simp[results,Tryz.results13,go_sem,p0,p1]) rfl ?_;exact⟨by rw[HV.o],dw.o⟩
