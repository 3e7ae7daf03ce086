/- Parts of the proof, laid into one text: RefCmp, RefCmpW. -/
import Derived.Test.YtfhmbechennkbaaGreatDoorD5
namespace Go.Proofs.YtfhmbechennkbaaGreatDoor
set_option maxRecDepth 100000
set_option maxHeartbeats 40000000
open Go.RowKit Go.Shelf
theorem mul_lo (x y:Nat):(x % 4294967296*(y / 4294967296)+(x / 4294967296*(y % 4294967296)+x % 4294967296*(y % 4294967296) / 4294967296) % 4294967296)*4294967296 % 18446744073709551616+x % 4294967296*(y % 4294967296) % 4294967296=x*y % 18446744073709551616:=by
 have e:x*y=(x / 4294967296)*(y / 4294967296)*(4294967296*4294967296)+((x / 4294967296)*(y % 4294967296)+(x % 4294967296)*(y / 4294967296))*4294967296+(x % 4294967296)*(y % 4294967296):=by
  rw [← Lib.split_mul,Nat.div_add_mod' x 4294967296,Nat.div_add_mod' y 4294967296]
 rw [e]
 generalize x / 4294967296*(y / 4294967296)=p
 generalize x / 4294967296*(y % 4294967296)=q
 generalize x % 4294967296*(y / 4294967296)=r
 generalize x % 4294967296*(y % 4294967296)=s
 omega
theorem refSize (n:Int) (w:World) (h1 : -1152921504606846976≤n) (h2:n≤1152921504606846976) :
  Calls Tryz.prog 92 #[.int .i64 n] w fun e w' => e = .returned (.int .u64 (n.natAbs:Nat))∧w=w':=by
 by_cases h0:n<0
 ·have e1:IntKind.u64.wrap n=n+18446744073709551616:=by
   show n % 18446744073709551616=_
   omega
  have e2:Hid (IntKind.u64.wrap (0-(n+18446744073709551616))=((n.natAbs:Nat):Int)):=by
   show (0-(n+18446744073709551616)) % 18446744073709551616=_
   omega
  clear h1 h2
  go_enter Tryz.func92,Tryz.ntmps92
  go_wp2
  go_ret
  refine ⟨?_,rfl⟩
  rw [← e2.out,Int.zero_sub]
  rfl
 ·have e1:Hid (IntKind.u64.wrap n=((n.natAbs:Nat):Int)):=by
   show n % 18446744073709551616=_
   omega
  clear h1 h2
  go_enter Tryz.func92,Tryz.ntmps92
  go_wp2
  go_ret
  refine ⟨?_,rfl⟩
  rw [← e1.out]
  rfl
theorem refMul (x y:Nat) (hx:x<18446744073709551616) (hy:y<18446744073709551616) (w:World) :
  Calls Tryz.prog 91 #[.int .u64 x,.int .u64 y] w fun e w' => e = .returned (wideV (x*y))∧Below w.heap.size w w':=by
 obtain ⟨bd,bt,bw,hhi⟩:=Lib.mul64_hi x y hx hy
 have hlo:=mul_lo x y
 have ba:=Lib.half_mul_le (a:=x / 4294967296) (b:=y / 4294967296) (by omega) (by omega)
 have bb:=Lib.half_mul_le (a:=x / 4294967296) (b:=y % 4294967296) (by omega) (by omega)
 have bc:=Lib.half_mul_le (a:=x % 4294967296) (b:=y / 4294967296) (by omega) (by omega)
 have ba':x / 4294967296*(y / 4294967296)<18446744073709551616:=by omega
 have bb':x / 4294967296*(y % 4294967296)<18446744073709551616:=by omega
 have bc':x % 4294967296*(y / 4294967296)<18446744073709551616:=by omega
 have HB:=zh ((Below.refl _ w).alloc (Nat.le_refl _) (.cells #[.int .u64 0,.int .u64 0] 135))
 go_enter Tryz.func91,Tryz.ntmps91
 have bw':(x % 4294967296*(y / 4294967296)+(x / 4294967296*(y % 4294967296)+x % 4294967296*(y % 4294967296) / 4294967296) % 4294967296)<18446744073709551616:=by omega
 have hhi':x / 4294967296*(y / 4294967296)+(x / 4294967296*(y % 4294967296)+x % 4294967296*(y % 4294967296) / 4294967296) / 4294967296+(x % 4294967296*(y / 4294967296)+(x / 4294967296*(y % 4294967296)+x % 4294967296*(y % 4294967296) / 4294967296) % 4294967296) / 4294967296=x*y / 18446744073709551616:=by
  rw [Nat.add_comm (x % 4294967296*(y / 4294967296))]
  exact hhi
 have bh1:x / 4294967296*(y / 4294967296)+(x / 4294967296*(y % 4294967296)+x % 4294967296*(y % 4294967296) / 4294967296) / 4294967296<18446744073709551616:=by omega
 have bh:x / 4294967296*(y / 4294967296)+(x / 4294967296*(y % 4294967296)+x % 4294967296*(y % 4294967296) / 4294967296) / 4294967296+(x % 4294967296*(y / 4294967296)+(x / 4294967296*(y % 4294967296)+x % 4294967296*(y % 4294967296) / 4294967296) % 4294967296) / 4294967296<18446744073709551616:=by omega
 have hsm:(x % 4294967296*(y / 4294967296)+(x / 4294967296*(y % 4294967296)+x % 4294967296*(y % 4294967296) / 4294967296) % 4294967296)*4294967296 % 18446744073709551616+x % 4294967296*(y % 4294967296) % 4294967296<18446744073709551616:=by
  rw [hlo]
  exact Nat.mod_lt _ (by decide)
 clear hhi bw
 go_wp2
 have hL:IntKind.u64.wrap (IntKind.u64.wrap ((((x % 4294967296*(y / 4294967296)+(x / 4294967296*(y % 4294967296)+x % 4294967296*(y % 4294967296) / 4294967296) % 4294967296):Nat):Int)*4294967296)+((x % 4294967296*(y % 4294967296) % 4294967296:Nat):Int))=((x*y % 18446744073709551616:Nat):Int):=by
  rw [show (((x % 4294967296*(y / 4294967296)+(x / 4294967296*(y % 4294967296)+x % 4294967296*(y % 4294967296) / 4294967296) % 4294967296):Nat):Int)*4294967296=(((x % 4294967296*(y / 4294967296)+(x / 4294967296*(y % 4294967296)+x % 4294967296*(y % 4294967296) / 4294967296) % 4294967296)*4294967296:Nat):Int) from (Int.natCast_mul _ 4294967296).symm,Mul64.wrapM,Mul64.addN,hlo]
  exact Mul64.wrapN _ (Nat.mod_lt _ (by decide))
 simp only [Mul64.maskN x hx,Mul64.maskN y hy,Mul64.divN,Mul64.mulN,Mul64.addN,Mul64.wrapN _ bd,Mul64.wrapN _ bb',Mul64.wrapN _ bt,Mul64.maskN _ bt,Mul64.maskN _ bd,Mul64.wrapN _ bc',Mul64.wrapN _ bw',Mul64.wrapN _ ba',Mul64.wrapN _ bh1,Mul64.wrapN _ bh]
 simp only [hL,hhi']
 unfold wideV
 clear hL hhi' hlo bd bt bw' ba bb bc ba' bb' bc' bh1 bh hsm
 generalize ((x*y / 18446744073709551616:Nat):Int)=h
 generalize ((x*y % 18446744073709551616:Nat):Int)=l
 refine bodyPost_ret (v:=.agg #[.int .u64 h,.int .u64 l]) (by simp [results,Tryz.results91,go_sem]) rfl ?_
 exact ⟨rfl,(Below.refl _ _).alloc (Nat.le_refl _) _⟩
def AtU (B:Nat) (v:Value) (w:World):Prop:=∃ g,v = .pointer (some ⟨g,0,none⟩)∧B≤g∧Blk w g 135 #[.int .u64 0,.int .u64 0]
def gU (B:Nat):GPost:=⟨fun v => ∃ g,v = .pointer (some ⟨g,0,none⟩),AtU B,⟨_,0,rfl⟩,fun _ _ _ hb h => by
 obtain ⟨g,h1,h2,h3⟩:=h
 exact ⟨g,h1,h2,h3.below hb h3.lt⟩,true⟩
theorem gU_new {P:Program} {o:Oper} {a:Act} {w:World} {B:Nat} (hB:B≤w.heap.size) (h:(execOp a.eval o).run P w = .ok (.value (.pointer (some ⟨w.heap.size,0,none⟩))) (w.alloc (.cells #[.int .u64 0,.int .u64 0] 135))):newAt P o a (gU B) w :=
 ⟨_,_,h,(Below.refl _ _).alloc (Nat.le_refl _) _,⟨_,rfl⟩,⟨_,rfl,hB,Blk.new _ _ _⟩,fun _ => ⟨w.heap.size,rfl,Nat.le_refl _,by simp⟩⟩
theorem rsize_g {n:Int} (w:World) (h1 : -1152921504606846976≤n) (h2:n≤1152921504606846976) :
  Calls Tryz.prog 92 #[.int .i64 n] w fun e w' => ∃ v,e = .returned v∧Below w.heap.size w w'∧(gV (.int .u64 (n.natAbs:Nat))).σ v∧(gV (.int .u64 (n.natAbs:Nat))).φ v w' :=
 (refSize n w h1 h2).mono fun _ _ ⟨he,hw⟩ => ⟨_,he,hw ▸ Below.refl _ _,rfl,trivial⟩
theorem rmul_g {x y:Nat} (w:World) (hx:x<18446744073709551616) (hy:y<18446744073709551616) :
  Calls Tryz.prog 91 #[.int .u64 x,.int .u64 y] w fun e w' => ∃ v,e = .returned v∧Below w.heap.size w w'∧(gV (wideV (x*y))).σ v∧(gV (wideV (x*y))).φ v w' :=
 (refMul x y hx hy w).mono fun _ _ ⟨he,hb⟩ => ⟨_,he,hb,rfl,trivial⟩
theorem us_stored {o w W : World} {g6 g7 : Nat} {xn xd yn yd : Value} (hB : Below w.heap.size w W) (h6 : w.heap.size + 1 < g6) (h7 : w.heap.size + 1 < g7) (hne : g7 ≠ g6) (b6 : Blk W g6 135 #[.int .u64 0,.int .u64 0]) (b7 : Blk W g7 135 #[.int .u64 0,.int .u64 0])
  (d0:Blk W w.heap.size 82 #[xn,xd]) (d1:Blk W (w.heap.size+1) 82 #[yn,yd]) (x0 x1 y0 y1:Value) (hW:o=((((W.setCell ⟨g6,0,none⟩ x0).setCell ⟨g6,1,none⟩ x1).setCell ⟨g7,0,none⟩ y0).setCell ⟨g7,1,none⟩ y1)) :
  Below w.heap.size w o∧Blk o g6 135 #[x0,x1]∧Blk o g7 135 #[y0,y1]∧Blk o w.heap.size 82 #[xn,xd]∧Blk o (w.heap.size+1) 82 #[yn,yd]:=by
 subst hW
 have k4:=fun {g:Nat} {t:TypeId} {c:Array Value} (hb:Blk W g t c) (h1:g≠g6) (h2:g≠g7) => (((hb.far (p:=⟨g6,0,none⟩) h1 x0).far (p:=⟨g6,1,none⟩) h1 x1).far (p:=⟨g7,0,none⟩) h2 y0).far (p:=⟨g7,1,none⟩) h2 y1
 exact ⟨(((hB.setCell (by show w.heap.size≤g6;omega) _).setCell (by show w.heap.size≤g6;omega) _).setCell (by show w.heap.size≤g7;omega) _).setCell (by show w.heap.size≤g7;omega) _,
  (((b6.set_ 0 x0).set_ 1 x1).far (p:=⟨g7,0,none⟩) (Ne.symm hne) y0).far (p:=⟨g7,1,none⟩) (Ne.symm hne) y1,(((b7.far (p:=⟨g6,0,none⟩) hne x0).far (p:=⟨g6,1,none⟩) hne x1).set_ 0 y0).set_ 1 y1,k4 d0 (by omega) (by omega),k4 d1 (by omega) (by omega)⟩
theorem refLess (m n:Nat) (w:World):Calls Tryz.prog 93 #[wideV m,wideV n] w fun e w' => e = .returned (.bool (decide (m<n)))∧Below w.heap.size w w':=by
 have HV:Hid ((m<n) ↔ _):=div_lt_of (m:=m) (n:=n) (K:=18446744073709551616) (by decide)
 have HD:=zh (Blk.new w 135 #[.int .u64 ((m / 18446744073709551616:Nat):Int),.int .u64 ((m % 18446744073709551616:Nat):Int)])
 have HD2:=zh ((Blk.new w 135 #[.int .u64 ((m / 18446744073709551616:Nat):Int),.int .u64 ((m % 18446744073709551616:Nat):Int)]).alloc (.cells #[.int .u64 ((n / 18446744073709551616:Nat):Int),.int .u64 ((n % 18446744073709551616:Nat):Int)] 135))
 have HB:=zh (((Below.refl _ w).alloc (Nat.le_refl _) (.cells #[.int .u64 ((m / 18446744073709551616:Nat):Int),.int .u64 ((m % 18446744073709551616:Nat):Int)] 135)).alloc (by simp) (.cells #[.int .u64 ((n / 18446744073709551616:Nat):Int),.int .u64 ((n % 18446744073709551616:Nat):Int)] 135))
 unfold wideV
 generalize m / 18446744073709551616=mh at *
 generalize m % 18446744073709551616=ml at *
 generalize n / 18446744073709551616=nh at *
 generalize n % 18446744073709551616=nl at *
 by_cases h1:mh<nh
 ·have d1:decide (mh<nh)=true:=decide_eq_true h1
  have HR:Hid (decide (m<n)=true):=decide_eq_true (HV.out.2 (.inl h1))
  clear h1
  go_enter Tryz.func93,Tryz.ntmps93
  go_wp2
  go_ret
  exact ⟨Ze HR.out.symm,HB.out⟩
 ·have d1:decide (mh<nh)=false:=decide_eq_false h1
  by_cases h2:mh=nh
  ·subst h2
   have HR:Hid (decide (m<n)=decide (ml<nl)):=by
    unfold Hid
    rw [Bool.eq_iff_iff,decide_eq_true_iff,decide_eq_true_iff,HV.out]
    omega
   clear h1
   go_enter Tryz.func93,Tryz.ntmps93
   go_wp2
   go_ret
   exact ⟨Ze HR.out.symm,HB.out⟩
  ·have d2:((mh:Int) == (nh:Int))=false:=beq_eq_false_iff_ne.2 (by omega)
   have HR:Hid (decide (m<n)=false):=decide_eq_false (by rw [HV.out];omega)
   clear h1 h2
   go_enter Tryz.func93,Tryz.ntmps93
   go_wp2
   go_ret
   exact ⟨Ze HR.out.symm,HB.out⟩
theorem refCmp (a b:FrT) (w:World) (ha:frGood a=true) (hb:frGood b=true) (hb0:0≤b.num) :
  Calls Tryz.prog 45 #[a.val,b.val] w fun e w' => e = .returned (.int .i64 (cmpF a b))∧Below w.heap.size w w':=by
 have HN:=zh fun (h0:0≤a.num) => cmp_nat ha hb h0 hb0
 have HG:=zh fun (h0:a.num<0) => cmp_neg ha hb h0 hb0
 obtain ⟨a1,a2,a3,a4⟩:=good_bd ha
 obtain ⟨b1,b2,b3,b4⟩:=good_bd hb
 have hDa:=fun W => rsize_g (n:=a.den) W (by omega) a2
 have hDb:=fun W => rsize_g (n:=b.den) W (by omega) b2
 have hSa:=fun W => rsize_g (n:=a.num) W a3 a4
 have hSb:=fun W => rsize_g (n:=b.num) W b3 b4
 have hP1:=fun W => rmul_g (x:=a.num.natAbs) (y:=b.den.natAbs) W (by omega) (by omega)
 have hP2:=fun W => rmul_g (x:=b.num.natAbs) (y:=a.den.natAbs) W (by omega) (by omega)
 have dbn:decide (b.num<0)=false:=decide_eq_false (by omega)
 clear ha hb a1 a2 a3 a4 b1 b2 b3 b4
 have HV:Hid (cmpF a b=if a.num*b.den<b.num*a.den then -1 else if b.num*a.den<a.num*b.den then 1 else 0):=rfl
 generalize cmpF a b=cr at *
 obtain ⟨an,ad⟩:=a
 obtain ⟨bn,bd⟩:=b
 simp only at *
 have HSa:=zh hSa
 have HDa:=zh hDa
 have HDb:=zh hDb
 have HSb:=zh hSb
 have HP1:=zh hP1
 have HP2:=zh hP2
 clear hSa hSb hP1 hP2 hDa hDb
 have D0:=(Blk.new w 82 #[.int .i64 an,.int .i64 ad]).alloc (.cells #[.int .i64 bn,.int .i64 bd] 82)
 have D1:=Blk.new (w.alloc (.cells #[.int .i64 an,.int .i64 ad] 82)) 82 #[.int .i64 bn,.int .i64 bd]
 rw [World.size_alloc] at D1
 have hB:=((Below.refl _ w).alloc (Nat.le_refl _) (.cells #[.int .i64 an,.int .i64 ad] 82)).alloc (by simp) (.cells #[.int .i64 bn,.int .i64 bd] 82)
 have hs:((w.alloc (.cells #[.int .i64 an,.int .i64 ad] 82)).alloc (.cells #[.int .i64 bn,.int .i64 bd] 82)).heap.size=w.heap.size+1+1:=by simp
 go_enter Tryz.func45,Tryz.ntmps45
 go_wp2_with (exact Go.WalkKit.wp_stop)
 generalize (w.alloc (.cells #[.int .i64 an,.int .i64 ad] 82)).alloc (.cells #[.int .i64 bn,.int .i64 bd] 82)=w3 at *
 have D0:=zh D0
 have D1:=zh D1
 have HB:=zh hB
 have Hs:Hid (w.heap.size+1<w3.heap.size):=by unfold Hid;omega
 clear hB hs
 have y0:=D0.out.cell 0
 have y1:=D0.out.cell 1
 have y2:=D1.out.cell 0
 have y3:=D1.out.cell 1
 simp only [zq1,zq2,zq3] at y0 y1 y2 y3
 have u0:=HeldB.cell y0
 have u1:=HeldB.cell y1
 have u2:=HeldB.cell y2
 have u3:=HeldB.cell y3
 clear y0 y1 y2 y3
 refine wp_region_apart 16 (fun jx => if jx=2 then some (gV (.int .u64 (an.natAbs:Nat))) else if jx=5 then some (gV (.int .u64 (bd.natAbs:Nat))) else if jx=6 then some (gV (wideV (an.natAbs*bd.natAbs))) else if jx=9 then some (gV (.int .u64 (bn.natAbs:Nat))) else if jx=12 then some (gV (.int .u64 (ad.natAbs:Nat))) else if jx=13 then some (gV (wideV (bn.natAbs*ad.natAbs))) else if jx=14 then some (gU w3.heap.size) else if jx=15 then some (gU w3.heap.size) else none) [5,6] (by kernel_rfl) (by kernel_rfl) (by kernel_rfl) (two_none rfl rfl) ?_
 simp only [zt1,zt2,zt3,zt4]
 refine wpG_quiet 2 (by kernel_rfl) (by rfl) (by decide) ?_
 simp only [zt1,zt2,zt3,zt4]
 repeat (go_big_quiet_step (fail))
 refine wpQuiet_nil ?_
 refine wpG_call rfl rfl (fun w1 _ _ => ⟨92,#[.int .i64 an],by go_simp,HSa.out w1⟩) ?_
 rintro _ rfl
 simp only [Act.put,zs1,zs2,zs3]
 refine wpG_quiet 2 (by kernel_rfl) (by rfl) (by decide) ?_
 simp only [zt1,zt2,zt3,zt4]
 repeat (go_big_quiet_step (fail))
 refine wpQuiet_nil ?_
 refine wpG_call rfl rfl (fun w1 _ _ => ⟨92,#[.int .i64 bd],by go_simp,HDb.out w1⟩) ?_
 rintro _ rfl
 simp only [Act.put,zs1,zs2,zs3]
 refine wpG_call rfl rfl (fun w1 _ _ => ⟨91,#[.int .u64 (an.natAbs:Nat),.int .u64 (bd.natAbs:Nat)],by go_simp,HP1.out w1⟩) ?_
 rintro _ rfl
 simp only [Act.put,zs1,zs2,zs3]
 refine wpG_quiet 2 (by kernel_rfl) (by rfl) (by decide) ?_
 simp only [zt1,zt2,zt3,zt4]
 repeat (go_big_quiet_step (fail))
 refine wpQuiet_nil ?_
 refine wpG_call rfl rfl (fun w1 _ _ => ⟨92,#[.int .i64 bn],by go_simp,HSb.out w1⟩) ?_
 rintro _ rfl
 simp only [Act.put,zs1,zs2,zs3]
 refine wpG_quiet 2 (by kernel_rfl) (by rfl) (by decide) ?_
 simp only [zt1,zt2,zt3,zt4]
 repeat (go_big_quiet_step (fail))
 refine wpQuiet_nil ?_
 refine wpG_call rfl rfl (fun w1 _ _ => ⟨92,#[.int .i64 ad],by go_simp,HDa.out w1⟩) ?_
 rintro _ rfl
 simp only [Act.put,zs1,zs2,zs3]
 refine wpG_call rfl rfl (fun w1 _ _ => ⟨91,#[.int .u64 (bn.natAbs:Nat),.int .u64 (ad.natAbs:Nat)],by go_simp,HP2.out w1⟩) ?_
 rintro _ rfl
 simp only [Act.put,zs1,zs2,zs3]
 refine wpG_new rfl rfl (fun w1 hb1 _ => gU_new hb1.size (by go_simp)) ?_
 rintro _ ⟨g6,rfl⟩
 simp only [Act.put,zs1,zs2,zs3]
 refine wpG_new rfl rfl (fun w1 hb1 _ => gU_new hb1.size (by go_simp)) ?_
 rintro _ ⟨g7,rfl⟩
 simp only [Act.put,zs1,zs2,zs3]
 refine Zc ?_
 intro w8 hb8 hF hA
 have h6:AtU w3.heap.size (.pointer (some ⟨g6,0,none⟩)) w8:=hF 5
 have h7:AtU w3.heap.size (.pointer (some ⟨g7,0,none⟩)) w8:=hF 6
 have h67:g7≠g6:=fun e => (hA 5 (by simp) g6 rfl).2 6 (by simp) (by decide) (by rw [e];rfl)
 have D08:=D0.out.below hb8 D0.out.lt
 have D18:=D1.out.below hb8 D1.out.lt
 have B8:=HB.out.trans (hb8.mono HB.out.size)
 obtain ⟨_,e6,l6,b6⟩:=h6
 obtain ⟨_,e7,l7,b7⟩:=h7
 injection e6 with e6
 injection e6 with e6
 injection e6 with e6 _ _
 injection e7 with e7
 injection e7 with e7
 injection e7 with e7 _ _
 subst e6 e7
 have hs3:=Hs.out
 obtain ⟨B9,p6,p7,p0,p1⟩:=us_stored B8 (by omega) (by omega) h67 b6 b7 D08 D18 (.int .u64 ((an.natAbs*bd.natAbs / 18446744073709551616:Nat):Int)) (.int .u64 ((an.natAbs*bd.natAbs % 18446744073709551616:Nat):Int)) (.int .u64 ((bn.natAbs*ad.natAbs / 18446744073709551616:Nat):Int)) (.int .u64 ((bn.natAbs*ad.natAbs % 18446744073709551616:Nat):Int)) rfl
 have HN':Hid (0≤an→(an*bd<bn*ad ↔ an.natAbs*bd.natAbs<bn.natAbs*ad.natAbs)∧(bn*ad<an*bd ↔ bn.natAbs*ad.natAbs<an.natAbs*bd.natAbs)):=HN.out
 have f60:=b6.frozen 0
 have f61:=b6.frozen 1
 have b7x:=(b7.far (p:=⟨g6,0,none⟩) h67 (.int .u64 ((an.natAbs*bd.natAbs / 18446744073709551616:Nat):Int))).far (p:=⟨g6,1,none⟩) h67 (.int .u64 ((an.natAbs*bd.natAbs % 18446744073709551616:Nat):Int))
 have b7y:=b7x.set_ 0 (.int .u64 ((bn.natAbs*ad.natAbs / 18446744073709551616:Nat):Int))
 have f70:=b7x.frozen 0
 have f71:=b7y.frozen 1
 have b70:=b7x.cell 0
 have b71:=b7y.cell 1
 have q60:=p6.cell 0
 have q61:=p6.cell 1
 have q70:=p7.cell 0
 have q71:=p7.cell 1
 have q00:=p0.cell 0
 have q10:=p1.cell 0
 have b60:=b6.cell 0
 have b61:=b6.cell 1
 simp only [zs1,zs2] at b71
 simp only [zq1,zq2,zq3] at q60 q61 q70 q71 q00 q10 b60 b61 b70 b71
 generalize an.natAbs*bd.natAbs=m at *
 generalize bn.natAbs*ad.natAbs=n at *
 have hL1:=fun W => refLess m n W
 have hL2:=fun W => refLess n m W
 have HE1:Hid (m=n→((m / 18446744073709551616:Nat):Int)=((n / 18446744073709551616:Nat):Int)∧((m % 18446744073709551616:Nat):Int)=((n % 18446744073709551616:Nat):Int)):=fun h => by subst h;exact ⟨rfl,rfl⟩
 have HE2:Hid (m≠n→(((m / 18446744073709551616:Nat):Int) == ((n / 18446744073709551616:Nat):Int))=false∨(((m % 18446744073709551616:Nat):Int) == ((n % 18446744073709551616:Nat):Int))=false):=fun h => by
  by_cases h1:m / 18446744073709551616=n / 18446744073709551616
  ·refine .inr (beq_eq_false_iff_ne.2 fun h2 => h ?_)
   have e1:=Nat.div_add_mod m 18446744073709551616
   have e2:=Nat.div_add_mod n 18446744073709551616
   rw [h1] at e1
   omega
  ·exact .inl (beq_eq_false_iff_ne.2 fun h2 => h1 (by omega))
 unfold wideV at *
 generalize ((m / 18446744073709551616:Nat):Int)=mh at *
 generalize ((m % 18446744073709551616:Nat):Int)=ml at *
 generalize ((n / 18446744073709551616:Nat):Int)=nh at *
 generalize ((n % 18446744073709551616:Nat):Int)=nl at *
 have P6:=zh p6
 have P7:=zh p7
 have B9:=zh B9
 clear b7x b7y HN HSa HSb HDa HDb HP1 HP2 h67 hs3 Hs l6 l7 b6 b7 p6 p7 p0 p1 B8 D08 D18 hA hF hb8 HB D0 D1 u0 u1 u2 u3
 by_cases c0:an<0
 ·have hcr:=HG.out c0
  have d0:decide (an<0)=true:=decide_eq_true c0
  subst hcr
  clear c0 HG HN' HV hL2
  go_wp2_with fail
  go_ret
  exact ⟨rfl,B9.out⟩
 ·have d0:decide (an<0)=false:=decide_eq_false c0
  have hN:=HN'.out (by omega)
  have HV2:Hid (cr=if m<n then -1 else if n<m then 1 else 0):=by
   unfold Hid
   rw [HV.out]
   simp only [hN.1,hN.2]
  have d1:decide (0≤an)=true:=decide_eq_true (by omega)
  have Q10:=zh q00
  by_cases hmn:m=n
  ·obtain ⟨rfl,rfl⟩:=HE1.out hmn
   have hcr:cr=0:=by rw [HV2.out,hmn,if_neg (Nat.lt_irrefl _),if_neg (Nat.lt_irrefl _)]
   subst hcr
   clear hmn c0 HE1 HE2 HG HN' HV HV2 hN hL2 hL1
   go_wp2_with fail
   go_ret
   exact ⟨rfl,B9.out⟩
  ·have hcs:=HE2.out hmn
   have hL1':∀ W,Calls Tryz.prog 93 #[.agg #[.int .u64 mh,.int .u64 ml],.agg #[.int .u64 nh,.int .u64 nl]] W fun e w' => ∃ v,e = .returned v∧Below W.heap.size W w'∧(gV (.bool (decide (m<n)))).σ v∧(gV (.bool (decide (m<n)))).φ v w':=fun W => (hL1 W).mono fun _ _ ⟨he,hb⟩ => ⟨_,he,hb,rfl,trivial⟩
   have hcr:Hid (cr=if decide (m<n) then -1 else 1):=by
    unfold Hid
    rw [HV2.out]
    by_cases h1:m<n
    ·rw [if_pos h1,decide_eq_true h1];rfl
    ·rw [if_neg h1,if_pos (by omega),decide_eq_false h1];rfl
   have Hmn:=zh hmn
   generalize decide (m<n)=lt at *
   clear hmn c0 HE1 HE2 HG HN' HV HV2 hN hL2 hL1
   have HLs:=zh hL1'
   clear hL1'
   rcases hcs with e1 | e1
   all_goals
    go_wp2_with (exact Go.WalkKit.wp_stop)
    have u1:=HeldB.cell q60
    have u2:=HeldB.cell q61
    have u3:=HeldB.cell q70
    have u4:=HeldB.cell q71
    have u5:=HeldB.cell q00
    clear q60 q61 q70 q71 q00 q10 b60 b61 b70 b71 f60 f61 f70 f71
    refine wp_region_grow 6 (fun jx => if jx=2 then some (gV (.bool lt)) else none) (by kernel_rfl) (by kernel_rfl) ?_
    simp only [zt1,zt2,zt3,zt4]
    refine wpG_quiet 2 (by kernel_rfl) (by rfl) (by decide) ?_
    simp only [zt1,zt2,zt3,zt4]
    repeat (go_big_quiet_step (fail))
    refine wpQuiet_nil ?_
    refine wpG_call rfl rfl (fun w1 _ _ => ⟨93,#[.agg #[.int .u64 mh,.int .u64 ml],.agg #[.int .u64 nh,.int .u64 nl]],by go_simp,HLs.out w1⟩) ?_
    rintro _ rfl
    simp only [Act.put,zs1,zs2,zs3]
    refine wpG_quiet 3 (by kernel_rfl) (by rfl) (by decide) ?_
    simp only [zt1,zt2,zt3,zt4]
    repeat (go_big_quiet_step (fail))
    refine wpQuiet_nil ?_
    refine Zc ?_
    intro w10 hb10 _
    have hbz:=B9.out.trans (hb10.mono B9.out.size)
    clear hb10 u1 u2 u3 u4 u5
    cases lt with
    | true =>
     have hc2:cr = -1:=by rw [hcr.out];rfl
     subst hc2
     go_wp2_with fail
     go_ret
     exact ⟨rfl,hbz⟩
    | false =>
     have hc2:cr=1:=by rw [hcr.out];rfl
     subst hc2
     go_wp2_with fail
     go_ret
     exact ⟨rfl,hbz⟩
end Go.Proofs.YtfhmbechennkbaaGreatDoor
