/- Lemmas. -/
import Derived.Test.YtknkhnahflmjiaaGreatDoorM2
namespace Go.Proofs.YtknkhnahflmjiaaGreatDoor
set_option maxRecDepth 100000
set_option maxHeartbeats 40000000
open Go.RowKit Go.Shelf
theorem mul_lo (x y:Nat):(x % 4294967296*(y / 4294967296)+(x / 4294967296*(y % 4294967296)+x % 4294967296*(y % 4294967296) / 4294967296) % 4294967296)*4294967296 % 18446744073709551616+x % 4294967296*(y % 4294967296) % 4294967296=x*y % 18446744073709551616:=by
 have e:x*y=(x / 4294967296)*(y / 4294967296)*(4294967296*4294967296)+((x / 4294967296)*(y % 4294967296)+(x % 4294967296)*(y / 4294967296))*4294967296+(x % 4294967296)*(y % 4294967296):=by
  rw[← Lib.split_mul,Nat.div_add_mod' x 4294967296,Nat.div_add_mod' y 4294967296]
 rw[e]
 generalize x / 4294967296*(y / 4294967296)=p
 generalize x / 4294967296*(y % 4294967296)=q
 generalize x % 4294967296*(y / 4294967296)=r
 generalize x % 4294967296*(y % 4294967296)=s
 omega
theorem refSize (n:Int) (w:World) (h1 : -1152921504606846976≤n) (h2:n≤1152921504606846976) :
  Calls Tryz.prog 95 #[.int .i64 n] w fun e w'=>e = .returned (.int .u64 (n.natAbs:Nat))∧w=w':=by
 by_cases h0:n<0
 ·have e1:IntKind.u64.wrap n=n+18446744073709551616:=by
   show n % 18446744073709551616=_
   omega
  have e2:Hid (IntKind.u64.wrap (0-(n+18446744073709551616))=((n.natAbs:Nat):Int)):=by
   show (0-(n+18446744073709551616)) % 18446744073709551616=_
   omega
  clear h1 h2
  go_enter Tryz.func95,Tryz.ntmps95
  go_wp2
  go_ret
  refine⟨?_,rfl⟩
  rw[← e2.out,Int.zero_sub]
  rfl
 have e1:Hid (IntKind.u64.wrap n=((n.natAbs:Nat):Int)):=by
  show n % 18446744073709551616=_
  omega
 clear h1 h2
 go_enter Tryz.func95,Tryz.ntmps95
 go_wp2
 go_ret
 refine⟨?_,rfl⟩
 rw[← e1.out]
 rfl
theorem refMul (x y:Nat) (hx:x<18446744073709551616) (hy:y<18446744073709551616) (w:World) :
  Calls Tryz.prog 98 #[.int .u64 x,.int .u64 y] w fun e w'=>e = .returned (wideV (x*y))∧Below w.heap.size w w':=by
 obtain⟨bd,bt,bw,hhi⟩:=Lib.mul64_hi x y hx hy
 have hlo:=mul_lo x y
 have ba:=Lib.half_mul_le (a:=x / 4294967296) (b:=y / 4294967296) (by omega) (by omega)
 have bb:=Lib.half_mul_le (a:=x / 4294967296) (b:=y % 4294967296) (by omega) (by omega)
 have bc:=Lib.half_mul_le (a:=x % 4294967296) (b:=y / 4294967296) (by omega) (by omega)
 have ba':x / 4294967296*(y / 4294967296)<18446744073709551616:=by omega
 have bb':x / 4294967296*(y % 4294967296)<18446744073709551616:=by omega
 have bc':x % 4294967296*(y / 4294967296)<18446744073709551616:=by omega
 have HB:=zh ((yB _ w).alloc (yA _) (.cells #[.int .u64 0,.int .u64 0] 133))
 go_enter Tryz.func98,Tryz.ntmps98
 have bw':(x % 4294967296*(y / 4294967296)+(x / 4294967296*(y % 4294967296)+x % 4294967296*(y % 4294967296) / 4294967296) % 4294967296)<18446744073709551616:=by omega
 have hhi':x / 4294967296*(y / 4294967296)+(x / 4294967296*(y % 4294967296)+x % 4294967296*(y % 4294967296) / 4294967296) / 4294967296+(x % 4294967296*(y / 4294967296)+(x / 4294967296*(y % 4294967296)+x % 4294967296*(y % 4294967296) / 4294967296) % 4294967296) / 4294967296=x*y / 18446744073709551616:=by
  rw[Nat.add_comm (x % 4294967296*(y / 4294967296))]
  exact hhi
 have bh1:x / 4294967296*(y / 4294967296)+(x / 4294967296*(y % 4294967296)+x % 4294967296*(y % 4294967296) / 4294967296) / 4294967296<18446744073709551616:=by omega
 have bh:x / 4294967296*(y / 4294967296)+(x / 4294967296*(y % 4294967296)+x % 4294967296*(y % 4294967296) / 4294967296) / 4294967296+(x % 4294967296*(y / 4294967296)+(x / 4294967296*(y % 4294967296)+x % 4294967296*(y % 4294967296) / 4294967296) % 4294967296) / 4294967296<18446744073709551616:=by omega
 have hsm:(x % 4294967296*(y / 4294967296)+(x / 4294967296*(y % 4294967296)+x % 4294967296*(y % 4294967296) / 4294967296) % 4294967296)*4294967296 % 18446744073709551616+x % 4294967296*(y % 4294967296) % 4294967296<18446744073709551616:=by
  rw[hlo]
  exact Nat.mod_lt _ (by decide)
 clear hhi bw
 go_wp2
 have hL:IntKind.u64.wrap (IntKind.u64.wrap ((((x % 4294967296*(y / 4294967296)+(x / 4294967296*(y % 4294967296)+x % 4294967296*(y % 4294967296) / 4294967296) % 4294967296):Nat):Int)*4294967296)+((x % 4294967296*(y % 4294967296) % 4294967296:Nat):Int))=((x*y % 18446744073709551616:Nat):Int):=by
  rw[show (((x % 4294967296*(y / 4294967296)+(x / 4294967296*(y % 4294967296)+x % 4294967296*(y % 4294967296) / 4294967296) % 4294967296):Nat):Int)*4294967296=(((x % 4294967296*(y / 4294967296)+(x / 4294967296*(y % 4294967296)+x % 4294967296*(y % 4294967296) / 4294967296) % 4294967296)*4294967296:Nat):Int) from (Int.natCast_mul _ 4294967296).symm,Mul64.wrapM,Mul64.addN,hlo]
  exact Mul64.wrapN _ (Nat.mod_lt _ (by decide))
 simp only[Mul64.maskN x hx,Mul64.maskN y hy,Mul64.divN,Mul64.mulN,Mul64.addN,Mul64.wrapN _ bd,Mul64.wrapN _ bb',Mul64.wrapN _ bt,Mul64.maskN _ bt,Mul64.maskN _ bd,Mul64.wrapN _ bc',Mul64.wrapN _ bw',Mul64.wrapN _ ba',Mul64.wrapN _ bh1,Mul64.wrapN _ bh]
 simp only[hL,hhi']
 unfold wideV
 clear hL hhi' hlo bd bt bw' ba bb bc ba' bb' bc' bh1 bh hsm
 generalize ((x*y / 18446744073709551616:Nat):Int)=h
 generalize ((x*y % 18446744073709551616:Nat):Int)=l
 refine YC (v:=.agg #[.int .u64 h,.int .u64 l]) (by simp[results,Tryz.results98,go_sem]) rfl ?_
 exact⟨rfl,(yB _ _).alloc (yA _) _⟩
theorem usize_g {n:Int} (w:World) (h1 : -1152921504606846976≤n) (h2:n≤1152921504606846976) :
  Calls Tryz.prog 95 #[.int .i64 n] w fun e w'=>∃ v,e = .returned v∧Below w.heap.size w w'∧(gV (.int .u64 (n.natAbs:Nat))).σ v∧(gV (.int .u64 (n.natAbs:Nat))).φ v w' :=
 (refSize n w h1 h2).mono fun _ _ ⟨he,hw⟩=>⟨_,he,hw▸yB _ _,rfl,trivial⟩
theorem umul_g {x y:Nat} (w:World) (hx:x<18446744073709551616) (hy:y<18446744073709551616) :
  Calls Tryz.prog 98 #[.int .u64 x,.int .u64 y] w fun e w'=>∃ v,e = .returned v∧Below w.heap.size w w'∧(gV (uW (x*y))).σ v∧(gV (uW (x*y))).φ v w' :=
 (refMul x y hx hy w).mono fun _ _ ⟨he,hb⟩=>⟨_,he,hb,rfl,trivial⟩
theorem signW_form (neg:Bool) (n d:Nat):∃ x y z:Int,signV neg n d = .tuple #[.agg #[.int .i64 x,.int .i64 y],.int .i64 z]:=by
 unfold signV
 by_cases h:n≤1152921504606846976∧d≤1152921504606846976
 ·exact⟨_,_,_,if_pos h⟩
 exact⟨_,_,_,if_neg h⟩
theorem nat_60 {x y:Nat} (hx:x≤1152921504606846976) (hy:y≤1152921504606846976):x*y<2 ^ 127:=Nat.lt_of_le_of_lt (Nat.mul_le_mul hx hy) (by decide)
theorem rfTimesW (a b:FrT) (w:World) (ha:frGood a=true) (hb:frGood b=true) :
  Calls Tryz.prog 109 #[a.val,b.val] w fun e w'=>e = .returned (fracV (qOf a*qOf b))∧Below w.heap.size w w':=by
 obtain⟨a1,a2,a3,a4⟩:=good_bd ha
 obtain⟨b1,b2,b3,b4⟩:=good_bd hb
 obtain⟨s1,ds1⟩:∃ s1,decide (a.num<0)=s1:=⟨_,rfl⟩
 obtain⟨s2,ds2⟩:∃ s2,decide (b.num<0)=s2:=⟨_,rfl⟩
 have hN:a.num.natAbs*b.num.natAbs<2 ^ 127:=nat_60 (by omega) (by omega)
 have hD:a.den.natAbs*b.den.natAbs<2 ^ 127:=nat_60 (by omega) (by omega)
 have hD0:0<a.den.natAbs*b.den.natAbs:=Nat.mul_pos (by omega) (by omega)
 have hq:fracV (qOf a*qOf b)=_:=made_q (N:=a.num.natAbs*b.num.natAbs) (D:=a.den.natAbs*b.den.natAbs) (neg:=s1 != s2) hD0 (by
  unfold qOf
  rw[Rat.mkRat_mul_mkRat]
  congr 1
  rw[← ds1,← ds2,Int.natCast_mul]
  by_cases c1:a.num<0 <;> by_cases c2:b.num<0 <;> simp only[c1,c2,decide_true,decide_false,bne_self_eq_false,Bool.true_bne,Bool.false_bne,Bool.not_false,if_true,Bool.false_eq_true,if_false]
  ·rw[show (a.num.natAbs:Int) = -a.num by omega,show (b.num.natAbs:Int) = -b.num by omega,Int.neg_mul_neg]
  ·rw[show (a.num.natAbs:Int) = -a.num by omega,show (b.num.natAbs:Int)=b.num by omega,Int.neg_mul,Int.neg_neg]
  ·rw[show (a.num.natAbs:Int)=a.num by omega,show (b.num.natAbs:Int) = -b.num by omega,Int.mul_neg,Int.neg_neg]
  rw[show (a.num.natAbs:Int)=a.num by omega,show (b.num.natAbs:Int)=b.num by omega])
 have HM:=zh fun W=>rfMadeW _ _ (s1 != s2) W hN hD0 hD
 obtain⟨fx,fy,fz,hv⟩:=signW_form (s1 != s2) (a.num.natAbs*b.num.natAbs / (a.num.natAbs*b.num.natAbs).gcd (a.den.natAbs*b.den.natAbs)) (a.den.natAbs*b.den.natAbs / (a.num.natAbs*b.num.natAbs).gcd (a.den.natAbs*b.den.natAbs))
 rw[hv] at HM hq
 rw[hq]
 clear hq hv hN hD hD0
 have HS1:=zh fun W=>usize_g (n:=a.num) W (by omega) (by omega)
 have HS2:=zh fun W=>usize_g (n:=b.num) W (by omega) (by omega)
 have HS3:=zh fun W=>usize_g (n:=a.den) W (by omega) (by omega)
 have HS4:=zh fun W=>usize_g (n:=b.den) W (by omega) (by omega)
 have HP1:=zh fun W=>umul_g (x:=a.num.natAbs) (y:=b.num.natAbs) W (by omega) (by omega)
 have HP2:=zh fun W=>umul_g (x:=a.den.natAbs) (y:=b.den.natAbs) W (by omega) (by omega)
 clear ha hb a1 a2 a3 a4 b1 b2 b3 b4
 obtain⟨an,ad⟩:=a
 obtain⟨bn,bd⟩:=b
 simp only at *
 generalize an.natAbs*bn.natAbs=N at *
 generalize ad.natAbs*bd.natAbs=D at *
 have D0:=((Blk.new w 23 #[.int .i64 an,.int .i64 ad]).alloc (.cells #[.int .i64 bn,.int .i64 bd] 23)).alloc (.cells #[.int .i64 0,.int .i64 0] 23)
 have D1:=(Blk.new (w.alloc (.cells #[.int .i64 an,.int .i64 ad] 23)) 23 #[.int .i64 bn,.int .i64 bd]).alloc (.cells #[.int .i64 0,.int .i64 0] 23)
 have D2:=Blk.new ((w.alloc (.cells #[.int .i64 an,.int .i64 ad] 23)).alloc (.cells #[.int .i64 bn,.int .i64 bd] 23)) 23 #[.int .i64 0,.int .i64 0]
 have hB:=below3W w (.cells #[.int .i64 an,.int .i64 ad] 23) (.cells #[.int .i64 bn,.int .i64 bd] 23) (.cells #[.int .i64 0,.int .i64 0] 23)
 simp only[World.size_alloc] at D1 D2
 have D0:=zh D0
 have D1:=zh D1
 have D2:=zh D2
 have HB:=zh hB
 clear hB
 go_enter Tryz.func109,Tryz.ntmps109
 go_upto_region 1 with fail
 generalize (((w.alloc (.cells #[.int .i64 an,.int .i64 ad] 23)).alloc (.cells #[.int .i64 bn,.int .i64 bd] 23)).alloc (.cells #[.int .i64 0,.int .i64 0] 23))=W1 at *
 have y0:=D0.out.cell 0
 have y1:=D0.out.cell 1
 have y2:=D1.out.cell 0
 have y3:=D1.out.cell 1
 simp only[zq1,zq2,zq3] at y0 y1 y2 y3
 have u0:=YE y0
 have u1:=YE y1
 have u2:=YE y2
 have u3:=YE y3
 clear y0 y1 y2 y3
 refine wp_region_grow 24 (fun jx=>if jx=2 then some (gV (.int .u64 (an.natAbs:Nat))) else if jx=5 then some (gV (.int .u64 (bn.natAbs:Nat))) else if jx=6 then some (gV (uW N)) else if jx=16 then some (gV (.int .u64 (ad.natAbs:Nat))) else if jx=19 then some (gV (.int .u64 (bd.natAbs:Nat))) else if jx=20 then some (gV (uW D)) else if jx=21 then some (gV (.tuple #[.agg #[.int .i64 fx,.int .i64 fy],.int .i64 fz])) else none) (by kernel_rfl) (by kernel_rfl) ?_
 simp only[zt1,zt2,zt3,zt4]
 refine wpG_quiet 2 (by kernel_rfl) (by rfl) (by decide) ?_
 simp only[zt1,zt2,zt3,zt4]
 repeat (go_big_quiet_step (fail))
 refine YB ?_
 refine wpG_call rfl rfl (fun w1 _ _=>⟨95,#[.int .i64 an],by go_simp,HS1.out w1⟩) ?_
 rintro _ rfl
 simp only[Act.put,zs1,zs2,zs3]
 refine wpG_quiet 2 (by kernel_rfl) (by rfl) (by decide) ?_
 simp only[zt1,zt2,zt3,zt4]
 repeat (go_big_quiet_step (fail))
 refine YB ?_
 refine wpG_call rfl rfl (fun w1 _ _=>⟨95,#[.int .i64 bn],by go_simp,HS2.out w1⟩) ?_
 rintro _ rfl
 simp only[Act.put,zs1,zs2,zs3]
 refine wpG_call rfl rfl (fun w1 _ _=>⟨98,#[.int .u64 (an.natAbs:Nat),.int .u64 (bn.natAbs:Nat)],by go_simp,HP1.out w1⟩) ?_
 rintro _ rfl
 simp only[Act.put,zs1,zs2,zs3]
 refine wpG_quiet 9 (by kernel_rfl) (by rfl) (by decide) ?_
 simp only[zt1,zt2,zt3,zt4]
 repeat (go_big_quiet_step (fail))
 refine YB ?_
 refine wpG_call rfl rfl (fun w1 _ _=>⟨95,#[.int .i64 ad],by go_simp,HS3.out w1⟩) ?_
 rintro _ rfl
 simp only[Act.put,zs1,zs2,zs3]
 refine wpG_quiet 2 (by kernel_rfl) (by rfl) (by decide) ?_
 simp only[zt1,zt2,zt3,zt4]
 repeat (go_big_quiet_step (fail))
 refine YB ?_
 refine wpG_call rfl rfl (fun w1 _ _=>⟨95,#[.int .i64 bd],by go_simp,HS4.out w1⟩) ?_
 rintro _ rfl
 simp only[Act.put,zs1,zs2,zs3]
 refine wpG_call rfl rfl (fun w1 _ _=>⟨98,#[.int .u64 (ad.natAbs:Nat),.int .u64 (bd.natAbs:Nat)],by go_simp,HP2.out w1⟩) ?_
 rintro _ rfl
 simp only[Act.put,zs1,zs2,zs3]
 refine wpG_call rfl rfl (fun w1 _ _=>⟨97,#[uW N,.bool (s1 != s2),uW D],by go_simp;cases s1 <;> cases s2 <;> rfl,(HM.out w1).mono fun _ _ ⟨he,hb⟩=>⟨_,he,hb,rfl,trivial⟩⟩) ?_
 rintro _ rfl
 simp only[Act.put,zs1,zs2,zs3]
 refine wpG_quiet 2 (by kernel_rfl) (by rfl) (by decide) ?_
 simp only[zt1,zt2,zt3,zt4]
 repeat (go_big_quiet_step (fail))
 refine YB ?_
 refine Zc ?_
 intro w4 hb4 hF
 have D24:=D2.out.below hb4 D2.out.lt
 have HB4:=HB.out.trans (hb4.mono HB.out.size)
 have q0:=D24.cell 0
 have f0:=D24.frozen 0
 have E1:=(D24.set_ 0 (.int .i64 fx))
 have f1:=E1.frozen 1
 have E2:=E1.set_ 1 (.int .i64 fy)
 have p0:=E2.cell 0
 have p1:=E2.cell 1
 have r1:=E1.cell 1
 simp only[zs1,zs2,zs3] at p0 p1 r1
 simp only[zq1,zq2,zq3] at q0 p0 p1 r1
 have HBz:=zh ((HB4.setCell (p:=⟨w.heap.size+1+1,0,none⟩) (by show w.heap.size≤w.heap.size+1+1;omega) (.int .i64 fx)).setCell (p:=⟨w.heap.size+1+1,1,none⟩) (by show w.heap.size≤w.heap.size+1+1;omega) (.int .i64 fy))
 clear D24 HB4 E1 E2 HM hF u0 u1 u2 u3 D0 D1 D2 HB HS1 HS2 HS3 HS4 HP1 HP2
 go_wp2_with fail
 refine YC (v:=.tuple #[.agg #[.int .i64 fx,.int .i64 fy],.int .i64 fz]) (by simp[results,Tryz.results109,go_sem,p0,p1]) rfl ?_
 exact⟨rfl,HBz.out⟩
theorem good_ofW {n d:Int} (h1:¬ d<1) (h2:¬ 1152921504606846976<d) (h3:¬ n < -1152921504606846976) (h4:¬ 1152921504606846976<n):frGood ⟨n,d⟩=(((Nat.gcd n.natAbs d.natAbs:Nat):Int)==1):=by
 unfold frGood
 simp only[]
 rw[yD (show 1≤d by omega),yD (show d≤1152921504606846976 by omega),yD (show -1152921504606846976≤n by omega),yD (show n≤1152921504606846976 by omega)]
 rfl
theorem good_noW {n d:Int} (h:d<1∨1152921504606846976<d∨n < -1152921504606846976∨1152921504606846976<n):frGood ⟨n,d⟩=false:=by
 unfold frGood
 simp only[]
 rcases h with h | h | h | h
 ·rw[yC (show ¬ 1≤d by omega)]
  rfl
 ·rw[yC (show ¬ d≤1152921504606846976 by omega),Bool.and_false]
  rfl
 ·rw[yC (show ¬ -1152921504606846976≤n by omega),Bool.and_false]
  rfl
 rw[yC (show ¬ n≤1152921504606846976 by omega),Bool.and_false]
 rfl
abbrev uS (x:Nat):Value:=.agg #[.int .u64 0,.int .u64 (x:Int)]
theorem uS_is {x:Nat} (h:x≤1152921504606846976):uW x=uS x:=by
 obtain⟨h0,h1⟩:=low_w h
 unfold uW uS
 rw[h0,h1]
theorem gcdS (a b:Nat) (w:World) (ha:a≤1152921504606846976) (hb0:0<b) (hb:b≤1152921504606846976):Calls Tryz.prog 94 #[uS a,uS b] w fun e w'=>e = .returned (uS (Nat.gcd a b))∧Below w.heap.size w w':=by
 have h:=rfGcdW a b w (Nat.lt_of_le_of_lt ha (by decide)) hb0 (Nat.lt_of_le_of_lt hb (by decide))
 rw[uS_is ha,uS_is hb,uS_is (yH (Nat.gcd_le_right _ hb0) hb)] at h
 exact h
theorem gcd_gS {f:FuncId} {args:Array Value} {u:Value} {w:World} (h:Calls Tryz.prog f args w fun e w'=>e = .returned u∧Below w.heap.size w w'):Calls Tryz.prog f args w fun e w'=>∃ v,e = .returned v∧Below w.heap.size w w'∧(gV u).σ v∧(gV u).φ v w' :=
 h.mono fun _ _ hp=>⟨_,hp.1,hp.2,rfl,trivial⟩
theorem rfValidW (x:FrT) (w:World):Calls Tryz.prog 45 #[x.val] w fun e w'=>e = .returned (.bool (frGood x))∧Below w.heap.size w w':=by
 obtain⟨n,d⟩:=x
 have HB:=zh ((yB _ w).alloc (yA _) (.cells #[.int .i64 n,.int .i64 d] 23))
 have HD:=zh (Blk.new w 23 #[.int .i64 n,.int .i64 d])
 go_enter Tryz.func45,Tryz.ntmps45
 go_upto_region 1 with fail
 generalize w.alloc (.cells #[.int .i64 n,.int .i64 d] 23)=W1 at *
 obtain⟨y0,y1⟩:=HD.out.c2
 by_cases c0:d<1
 ·have d0:decide (d<1)=true:=yD c0
  have HV:Hid (frGood ⟨n,d⟩=false):=good_noW (.inl c0)
  go_wp2_with fail
  go_ret
  exact⟨Ze HV.out.symm,HB.out⟩
 have d0:decide (d<1)=false:=yC c0
 by_cases c1:1152921504606846976<d
 ·have d1:decide (1152921504606846976<d)=true:=yD c1
  have HV:Hid (frGood ⟨n,d⟩=false):=good_noW (.inr (.inl c1))
  go_wp2_with fail
  go_ret
  exact⟨Ze HV.out.symm,HB.out⟩
 have d1:decide (1152921504606846976<d)=false:=yC c1
 by_cases c2:n < -1152921504606846976
 ·have d2:decide (n < -1152921504606846976)=true:=yD c2
  have HV:Hid (frGood ⟨n,d⟩=false):=good_noW (.inr (.inr (.inl c2)))
  go_wp2_with fail
  go_ret
  exact⟨Ze HV.out.symm,HB.out⟩
 have d2:decide (n < -1152921504606846976)=false:=yC c2
 by_cases c3:1152921504606846976<n
 ·have d3:decide (1152921504606846976<n)=true:=yD c3
  have HV:Hid (frGood ⟨n,d⟩=false):=good_noW (.inr (.inr (.inr c3)))
  go_wp2_with fail
  go_ret
  exact⟨Ze HV.out.symm,HB.out⟩
 have d3:decide (1152921504606846976<n)=false:=yC c3
 have HV:=zh (good_ofW c0 c1 c2 c3)
 have hn1 : -1152921504606846976≤n:=by omega
 have hn2:n≤1152921504606846976:=by omega
 have hd1 : -1152921504606846976≤d:=by omega
 have hd2:d≤1152921504606846976:=by omega
 have HGc:=zh (fun W=>gcdS n.natAbs d.natAbs W (by omega) (by omega) (by omega))
 clear c0 c1 c2 c3
 go_upto_region 3 with fail
 have uy0:=YE y0
 have uy1:=YE y1
 clear y0 y1
 refine wp_region_grow 10 (fun jx=>if jx=2 then some (gV (.int .u64 (n.natAbs:Nat))) else if jx=6 then some (gV (.int .u64 (d.natAbs:Nat))) else if jx=8 then some (gV (uS (Nat.gcd n.natAbs d.natAbs))) else none) (by kernel_rfl) (by kernel_rfl) ?_
 simp only[zt1,zt2,zt3,zt4]
 refine wpG_quiet 2 (by kernel_rfl) (by rfl) (by decide) ?_
 simp only[zt1,zt2,zt3,zt4]
 repeat (go_big_quiet_step (fail))
 refine YB ?_
 refine wpG_call rfl rfl ?_ ?_
 ·intro w1 hb1 hk
  have hC:=usize_g (n:=n) w1 hn1 hn2
  exact⟨95,#[.int .i64 n],by go_simp,hC⟩
 rintro _ rfl
 simp only[Act.put,zs1,zs2,zs3]
 refine wpG_quiet 3 (by kernel_rfl) (by rfl) (by decide) ?_
 simp only[zt1,zt2,zt3,zt4]
 repeat (go_big_quiet_step (fail))
 refine YB ?_
 refine wpG_call rfl rfl ?_ ?_
 ·intro w1 hb1 hk
  have hC:=usize_g (n:=d) w1 hd1 hd2
  exact⟨95,#[.int .i64 d],by go_simp,hC⟩
 rintro _ rfl
 simp only[Act.put,zs1,zs2,zs3]
 refine wpG_quiet 1 (by kernel_rfl) (by rfl) (by decide) ?_
 simp only[zt1,zt2,zt3,zt4]
 repeat (go_big_quiet_step (fail))
 refine YB ?_
 refine wpG_call rfl rfl ?_ ?_
 ·intro w1 hb1 hk
  have hC:=gcd_gS (HGc.out w1)
  exact⟨94,#[uS n.natAbs,uS d.natAbs],by go_simp,hC⟩
 rintro _ rfl
 simp only[Act.put,zs1,zs2,zs3]
 refine wpG_quiet 1 (by kernel_rfl) (by rfl) (by decide) ?_
 simp only[zt1,zt2,zt3,zt4]
 repeat (go_big_quiet_step (fail))
 refine YB ?_
 refine Zc ?_
 intro w8 hb8 hF
 have HB8:=zh (HB.out.trans (hb8.mono HB.out.size))
 clear hF hb8 uy0 uy1 HGc
 generalize Nat.gcd n.natAbs d.natAbs=g at *
 obtain⟨q,hq⟩:∃ q,((g:Int)==1)=q:=⟨_,rfl⟩
 rw[hq] at HV
 cases q
 all_goals
  go_wp2_with fail
  go_ret
  exact⟨Ze HV.out.symm,HB8.out⟩
theorem rfOf (m:Int) (w:World):Calls Tryz.prog 53 #[.int .i64 m] w fun e w'=>e = .returned (.agg #[.int .i64 m,.int .i64 1])∧Below w.heap.size w w':=by
 go_enter Tryz.func53,Tryz.ntmps53
 go_wp2_with fail
 refine YC (v:=.agg #[.int .i64 m,.int .i64 1]) (by simp[results,Tryz.results53,go_sem]) rfl ?_
 exact⟨rfl,(yB _ _).alloc (yA _) _⟩
end Go.Proofs.YtknkhnahflmjiaaGreatDoor
