/- Lemmas. -/
import Derived.Test.YtmmhehgajkaniaaGreatDoorZ16
namespace Go.Proofs.YtmmhehgajkaniaaGreatDoor
set_option maxRecDepth 100000
set_option maxHeartbeats 40000000
open Go.RowKit Go.Shelf
def hW (x:Nat):Int:=((x/18446744073709551616:Nat):Int)
def lW (x:Nat):Int:=((x%18446744073709551616:Nat):Int)
abbrev uW (x:Nat):Value:=.agg #[.int .u64 (hW x),.int .u64 (lW x)]
theorem vwL (n:Int):bits .and .u64 n 1=n%2:=by
 have h1:(BitVec.ofInt 64 1).toNat=2^1-1:=by decide
 have key:(BitVec.ofInt 64 n &&& BitVec.ofInt 64 1).toNat=(n%((2^64:Nat):Int)).toNat%2^1:=by
  rw[BitVec.toNat_and,BitVec.toNat_ofInt,h1,Nat.and_two_pow_sub_one_eq_mod]
 show (((BitVec.ofInt 64 n &&& BitVec.ofInt 64 1).toNat:Nat):Int)%18446744073709551616=n%2;rw[key];omega
theorem vy (x:Nat):(bits .and .u64 (lW x) 1==0)=decide (x%2=0):=by
 rw[vwL,Bool.eq_iff_iff,beq_iff_eq,decide_eq_true_eq];unfold lW;omega
theorem M8 (w:World) (X:Obj) (t:TypeId) (a b:Value):((w.alloc X).alloc (.cells #[a,b] t)).cell? ⟨w.heap.size+1,0,none⟩=some a∧((w.alloc X).alloc (.cells #[a,b] t)).cell? ⟨w.heap.size+1,1,none⟩=some b:=by
 have h:=Blk.new (w.alloc X) t #[a,b];rw[yZ] at h;obtain⟨h0,h1⟩:=h.c2;exact⟨h0,h1⟩
theorem vW (w:World) (X Y:Obj) (t:TypeId) (a b:Value):(((w.alloc X).alloc Y).alloc (.cells #[a,b] t)).cell? ⟨w.heap.size+1+1,0,none⟩=some a∧(((w.alloc X).alloc Y).alloc (.cells #[a,b] t)).cell? ⟨w.heap.size+1+1,1,none⟩=some b:=by
 have h:=M8 (w.alloc X) Y t a b;rw[yZ] at h;exact h
theorem ni (w:World) (X Y Z:Obj):Below w.heap.size w (((w.alloc X).alloc Y).alloc Z):=(((yB _ w).alloc (yA _) _).alloc (by simp) _).alloc (by simp;omega) _
theorem jX {ops:Array Oper} {rest:List Oper} {o:Oper} {a:Act} {Q:Exit→Act→World→Prop} {w:World} (x:Nat) (sP:o.guard=none) (s t:Operand)
  (ho:o.op=.binOp .eql 67 s t 67) (hs:a.eval s=uW x) (ht:a.eval t=.agg #[.int .u64 0,.int .u64 0])
  (h:wpList Tryz.prog ops Q rest (a.put o.dst (.bool (decide (x=0)))) w):wpList Tryz.prog ops Q (o::rest) a w:=by
 refine wpList_plain sP fun K hK=>?_;have hk:=hK _ _ h;have e:decide (x=0)=((hW x==0)&&(lW x==0)):=by
  rw[Bool.eq_iff_iff,decide_eq_true_eq,Bool.and_eq_true,beq_iff_eq,beq_iff_eq];unfold hW lW;omega
 rw[e] at hk;clear e h hK;unfold uW at hs;generalize hW x=p at*;generalize lW x=q at*;unfold Oper.wp execOp;simp only[ho,hs,ht];by_cases h1:p=0
 ·by_cases h2:q=0
  ·subst h1 h2;simpa[go_sem,Result.andThen] using hk
  have h3:(q==0)=false:=zb h2;subst h1;simpa[go_sem,Result.andThen,h2,h3] using hk
 have h3:(p==0)=false:=zb h1;simpa[go_sem,Result.andThen,h1,h3] using hk
theorem m7 {ops:Array Oper} {rest:List Oper} {o:Oper} {a:Act} {Q:Exit→Act→World→Prop} {w:World} (x:Nat) (sP:o.guard=none) (s t:Operand)
  (ho:o.op=.binOp .neq 67 s t 67) (hs:a.eval s=uW x) (ht:a.eval t=.agg #[.int .u64 0,.int .u64 0])
  (h:wpList Tryz.prog ops Q rest (a.put o.dst (.bool (!decide (x=0)))) w):wpList Tryz.prog ops Q (o::rest) a w:=by
 refine wpList_plain sP fun K hK=>?_;have hk:=hK _ _ h;have e:decide (x=0)=((hW x==0)&&(lW x==0)):=by
  rw[Bool.eq_iff_iff,decide_eq_true_eq,Bool.and_eq_true,beq_iff_eq,beq_iff_eq];unfold hW lW;omega
 rw[e] at hk;clear e h hK;unfold uW at hs;generalize hW x=p at*;generalize lW x=q at*;unfold Oper.wp execOp;simp only[ho,hs,ht];by_cases h1:p=0
 ·by_cases h2:q=0
  ·subst h1 h2;simpa[go_sem,Result.andThen] using hk
  have h3:(q==0)=false:=zb h2;subst h1;simpa[go_sem,Result.andThen,h2,h3] using hk
 have h3:(p==0)=false:=zb h1;simpa[go_sem,Result.andThen,h1,h3] using hk
theorem Cl (x:Nat) (w:World) (hx:x<340282366920938463463374607431768211456):Calls Tryz.prog 53 #[uW x] w fun e w'=>e=.returned (uW (x/2))∧Below w.heap.size w w':=by
 obtain⟨e1,e2⟩:=UK x;obtain⟨b1,b2,-⟩:=Az hx;unfold uW hW lW;rw[e1,e2];clear e1 e2 hx;generalize x/18446744073709551616=h at*;generalize x%18446744073709551616=l at*;have v1:(h:Int)/2=((h/2:Nat):Int):=by omega
 have v2:(l:Int)/2=((l/2:Nat):Int):=by omega
 have v3:IntKind.u64.wrap ((h:Int)*9223372036854775808)=((h%2*9223372036854775808:Nat):Int):=by
  show (h:Int)*9223372036854775808%18446744073709551616=_;omega
 have v4:IntKind.u64.wrap (((l/2:Nat):Int)+((h%2*9223372036854775808:Nat):Int))=((l/2+h%2*9223372036854775808:Nat):Int):=by rw[Mul64.addN];exact Mul64.wrapN _ (by omega)
 have v5:IntKind.u64.wrap ((h/2:Nat):Int)=((h/2:Nat):Int):=Mul64.wrapN _ (by omega);have v6:IntKind.u64.wrap ((l/2:Nat):Int)=((l/2:Nat):Int):=Mul64.wrapN _ (by omega);obtain⟨p0,p1⟩:=M8 w (.cells #[.int .u64 (h:Int),.int .u64 (l:Int)] 67) 67 (.int .u64 ((h/2:Nat):Int)) (.int .u64 ((l/2+h%2*9223372036854775808:Nat):Int));generalize h/2=h2 at*;generalize l/2+h%2*9223372036854775808=l3 at*;generalize l/2=l2 at*
 generalize h%2*9223372036854775808=c at*;clear b1 b2;go_enter Tryz.func53,Tryz.ntmps53;go_wp2_with fail;refine YF (v:=.agg #[.int .u64 (h2:Int),.int .u64 (l3:Int)]) (by simp[results,Tryz.results53,go_sem,p0,p1]) rfl ?_;exact⟨rfl,((yB _ w).alloc (yA _) _).alloc (by simp) _⟩
theorem Lt (x y:Nat) (w:World):Calls Tryz.prog 54 #[uW x,uW y] w fun e w'=>e=.returned (.bool (decide (x<y)))∧Below w.heap.size w w':=by
 have HL:=zh (@Ue x y);have HB:=zh (((yB _ w).alloc (yA _) (.cells #[.int .u64 (hW x),.int .u64 (lW x)] 67)).alloc (by simp) (.cells #[.int .u64 (hW y),.int .u64 (lW y)] 67));unfold uW hW lW at*;generalize x/18446744073709551616=xh at*;generalize x%18446744073709551616=xl at*;generalize y/18446744073709551616=yh at*;generalize y%18446744073709551616=yl at*;by_cases c1:xh<yh
 ·have HV:Y0 (decide (x<y)=true):=yD (HL.o.2 (.inl c1));have d1:decide ((xh:Int)<(yh:Int))=true:=yD (by omega);have d2:decide (xh<yh)=true:=yD c1;clear c1 HL;generalize decide (x<y)=b at*;go_enter Tryz.func54,Tryz.ntmps54;go_wp2_with fail;go_ret;exact⟨Ze HV.o.symm,HB.o⟩
 have d1:decide ((xh:Int)<(yh:Int))=false:=yC (by omega);have d2:decide (xh<yh)=false:=yC c1;by_cases c2:xh=yh
 ·have HV:Y0 (decide (x<y)=decide (xl<yl)):=by
   unfold Y0;rw[decide_eq_decide,HL.o];refine⟨fun h=>?_,fun h=>.inr ⟨c2,h⟩⟩;rcases h with h|h
   ·exact absurd h c1
   exact h.2
  subst c2;have d3:((xh:Int)==(xh:Int))=true:=beq_self_eq_true _;clear c1 HL;generalize decide (x<y)=b at*;go_enter Tryz.func54,Tryz.ntmps54;go_wp2_with fail;go_ret;exact⟨Ze (by rw[HV.o]),HB.o⟩
 have HV:Y0 (decide (x<y)=false):=by
  refine yC fun h=>?_;rcases HL.o.1 h with h|h
  ·exact c1 h
  exact c2 h.1
 have d3:((xh:Int)==(yh:Int))=false:=zb (by omega);clear c1 HL;generalize decide (x<y)=b at*;go_enter Tryz.func54,Tryz.ntmps54;go_wp2_with fail;go_ret;exact⟨Ze HV.o.symm,HB.o⟩
theorem wP (x y:Nat) (w:World) (hx:x<340282366920938463463374607431768211456) (hy:y≤x):Calls Tryz.prog 55 #[uW x,uW y] w fun e w'=>e=.returned (uW (x-y))∧Below w.heap.size w w':=by
 obtain⟨e1,e0,e2⟩:=NL hy;obtain⟨b1,b2,-⟩:=Az hx;have b3:y%18446744073709551616<18446744073709551616:=YJ _ (by decide);have b4:y/18446744073709551616<18446744073709551616:=by omega
 unfold uW hW lW;rw[e1,e2];clear e1 e2 hx hy;generalize x/18446744073709551616=xh at*;generalize x%18446744073709551616=xl at*;generalize y/18446744073709551616=yh at*;generalize y%18446744073709551616=yl at*;obtain⟨lo,Br⟩:=zo ((xl+18446744073709551616-yl)%18446744073709551616);have v1:IntKind.u64.wrap ((xl:Int)-(yl:Int))=(lo:Int):=by
  show ((xl:Int)-(yl:Int))%18446744073709551616=_;omega
 by_cases c:xl<yl
 ·rw[if_pos c] at e0;rw[if_pos c,Br];obtain⟨hd,U7⟩:=zo (xh-yh);obtain⟨h1,hh1⟩:=zo (hd-1);have d1:decide ((xl:Int)<(yl:Int))=true:=yD (by omega);have d2:decide (xl<yl)=true:=yD c;have v2:IntKind.u64.wrap ((xh:Int)-(yh:Int))=(hd:Int):=by
   show ((xh:Int)-(yh:Int))%18446744073709551616=_;omega
  have v3:IntKind.u64.wrap ((hd:Int)-1)=(h1:Int):=by
   show ((hd:Int)-1)%18446744073709551616=_;omega
  rw[U7,hh1];clear c e0 b1 b2 b3 b4 Br U7 hh1;go_enter Tryz.func55,Tryz.ntmps55;go_wp2_with fail;obtain⟨p0,p1⟩:=vW w (.cells #[.int .u64 (xh:Int),.int .u64 (xl:Int)] 67) (.cells #[.int .u64 (yh:Int),.int .u64 (yl:Int)] 67) 67 (.int .u64 (h1:Int)) (.int .u64 (lo:Int));refine YF (v:=.agg #[.int .u64 (h1:Int),.int .u64 (lo:Int)]) (by simp[results,Tryz.results55,go_sem,p0,p1]) rfl ?_;exact⟨rfl,ni ..⟩
 rw[if_neg c] at e0;rw[if_neg c,Br,Nat.sub_zero];obtain⟨hd,U7⟩:=zo (xh-yh);have d1:decide ((xl:Int)<(yl:Int))=false:=yC (by omega);have d2:decide (xl<yl)=false:=yC c;have v2:IntKind.u64.wrap ((xh:Int)-(yh:Int))=(hd:Int):=by
  show ((xh:Int)-(yh:Int))%18446744073709551616=_;omega
 rw[U7];clear c e0 b1 b2 b3 b4 Br U7;go_enter Tryz.func55,Tryz.ntmps55;go_wp2_with fail;obtain⟨p0,p1⟩:=vW w (.cells #[.int .u64 (xh:Int),.int .u64 (xl:Int)] 67) (.cells #[.int .u64 (yh:Int),.int .u64 (yl:Int)] 67) 67 (.int .u64 (hd:Int)) (.int .u64 (lo:Int));refine YF (v:=.agg #[.int .u64 (hd:Int),.int .u64 (lo:Int)]) (by simp[results,Tryz.results55,go_sem,p0,p1]) rfl ?_;exact⟨rfl,ni ..⟩
theorem XM (x y:Nat) (w:World) (hx:x+y<340282366920938463463374607431768211456):Calls Tryz.prog 56 #[uW x,uW y] w fun e w'=>e=.returned (uW (x+y))∧Below w.heap.size w w':=by
 obtain⟨e1,e2⟩:=T7 x y;have b0:(x+y)/18446744073709551616<18446744073709551616:=by omega
 have b1:x%18446744073709551616<18446744073709551616:=YJ _ (by decide);have b2:y%18446744073709551616<18446744073709551616:=YJ _ (by decide);rw[e2] at b0;unfold uW hW lW;rw[e1,e2];clear e1 e2 hx;generalize x/18446744073709551616=xh at*;generalize x%18446744073709551616=xl at*;generalize y/18446744073709551616=yh at*;generalize y%18446744073709551616=yl at*;obtain⟨lo,Br⟩:=zo ((xl+yl)%18446744073709551616)
 have v1:IntKind.u64.wrap ((xl:Int)+(yl:Int))=(lo:Int):=by
  show ((xl:Int)+(yl:Int))%18446744073709551616=_;omega
 rw[Br] at b0⊢;by_cases c:lo<xl
 ·rw[if_pos c] at b0⊢;obtain⟨hd,U7⟩:=zo (xh+yh);obtain⟨h1,hh1⟩:=zo (hd+1);have d1:decide ((lo:Int)<(xl:Int))=true:=yD (by omega);have d2:decide (lo<xl)=true:=yD c;have v2:IntKind.u64.wrap ((xh:Int)+(yh:Int))=(hd:Int):=by
   show ((xh:Int)+(yh:Int))%18446744073709551616=_;omega
  have v3:IntKind.u64.wrap ((hd:Int)+1)=(h1:Int):=by
   show ((hd:Int)+1)%18446744073709551616=_;omega
  rw[U7,hh1];clear c b0 b1 b2 Br U7 hh1;go_enter Tryz.func56,Tryz.ntmps56;go_wp2_with fail;obtain⟨p0,p1⟩:=vW w (.cells #[.int .u64 (xh:Int),.int .u64 (xl:Int)] 67) (.cells #[.int .u64 (yh:Int),.int .u64 (yl:Int)] 67) 67 (.int .u64 (h1:Int)) (.int .u64 (lo:Int));refine YF (v:=.agg #[.int .u64 (h1:Int),.int .u64 (lo:Int)]) (by simp[results,Tryz.results56,go_sem,p0,p1]) rfl ?_;exact⟨rfl,ni ..⟩
 rw[if_neg c] at b0⊢;rw[Nat.add_zero] at b0⊢;obtain⟨hd,U7⟩:=zo (xh+yh);have d1:decide ((lo:Int)<(xl:Int))=false:=yC (by omega);have d2:decide (lo<xl)=false:=yC c;have v2:IntKind.u64.wrap ((xh:Int)+(yh:Int))=(hd:Int):=by
  show ((xh:Int)+(yh:Int))%18446744073709551616=_;omega
 rw[U7];clear c b0 b1 b2 Br U7;go_enter Tryz.func56,Tryz.ntmps56;go_wp2_with fail;obtain⟨p0,p1⟩:=vW w (.cells #[.int .u64 (xh:Int),.int .u64 (xl:Int)] 67) (.cells #[.int .u64 (yh:Int),.int .u64 (yl:Int)] 67) 67 (.int .u64 (hd:Int)) (.int .u64 (lo:Int));refine YF (v:=.agg #[.int .u64 (hd:Int),.int .u64 (lo:Int)]) (by simp[results,Tryz.results56,go_sem,p0,p1]) rfl ?_;exact⟨rfl,ni ..⟩
structure GW (w W:World) (x y:Nat):Prop where
 bx:Blk W w.heap.size 67 #[.int .u64 (hW x),.int .u64 (lW x)]
 by_:Blk W (w.heap.size+1) 67 #[.int .u64 (hW y),.int .u64 (lW y)]
 res:Blk W (w.heap.size+1+1) 67 #[.int .u64 0,.int .u64 0]
 bel:Below w.heap.size w W
section
variable {w W W':World} {x y:Nat}
theorem GW.grow (h:GW w W x y) (hb:Below W.heap.size W W'):GW w W' x y :=
 ⟨h.bx.below hb h.bx.lt,h.by_.below hb h.by_.lt,h.res.below hb h.res.lt,h.bel.trans (hb.mono h.bel.size)⟩
theorem GW.putx (h:GW w W x y) (z:Nat):GW w ((W.setCell ⟨w.heap.size,0,none⟩ (.int .u64 (hW z))).setCell ⟨w.heap.size,1,none⟩ (.int .u64 (lW z))) z y :=
 ⟨(h.bx.set_ 0 _).set_ 1 _,(h.by_.far (p:=⟨w.heap.size,0,none⟩) (by show w.heap.size+1≠w.heap.size;omega) _).far (p:=⟨w.heap.size,1,none⟩) (by show w.heap.size+1≠w.heap.size;omega) _,
  (h.res.far (p:=⟨w.heap.size,0,none⟩) (by show w.heap.size+1+1≠w.heap.size;omega) _).far (p:=⟨w.heap.size,1,none⟩) (by show w.heap.size+1+1≠w.heap.size;omega) _,
  (h.bel.setCell (p:=⟨w.heap.size,0,none⟩) (yA _) _).setCell (p:=⟨w.heap.size,1,none⟩) (yA _) _⟩
theorem GW.puty (h:GW w W x y) (z:Nat):GW w ((W.setCell ⟨w.heap.size+1,0,none⟩ (.int .u64 (hW z))).setCell ⟨w.heap.size+1,1,none⟩ (.int .u64 (lW z))) x z :=
 ⟨(h.bx.far (p:=⟨w.heap.size+1,0,none⟩) (by show w.heap.size≠w.heap.size+1;omega) _).far (p:=⟨w.heap.size+1,1,none⟩) (by show w.heap.size≠w.heap.size+1;omega) _,(h.by_.set_ 0 _).set_ 1 _,
  (h.res.far (p:=⟨w.heap.size+1,0,none⟩) (by show w.heap.size+1+1≠w.heap.size+1;omega) _).far (p:=⟨w.heap.size+1,1,none⟩) (by show w.heap.size+1+1≠w.heap.size+1;omega) _,
  (h.bel.setCell (p:=⟨w.heap.size+1,0,none⟩) (YH _) _).setCell (p:=⟨w.heap.size+1,1,none⟩) (YH _) _⟩
end
theorem GW.start (w:World) (a b:Nat):GW w (((w.alloc (.cells #[.int .u64 (hW a),.int .u64 (lW a)] 67)).alloc (.cells #[.int .u64 (hW b),.int .u64 (lW b)] 67)).alloc (.cells #[.int .u64 0,.int .u64 0] 67)) a b:=by
 have h1:=((Blk.new w 67 #[.int .u64 (hW a),.int .u64 (lW a)]).alloc (.cells #[.int .u64 (hW b),.int .u64 (lW b)] 67)).alloc (.cells #[.int .u64 0,.int .u64 0] 67);have h2:=(Blk.new (w.alloc (.cells #[.int .u64 (hW a),.int .u64 (lW a)] 67)) 67 #[.int .u64 (hW b),.int .u64 (lW b)]).alloc (.cells #[.int .u64 0,.int .u64 0] 67);have h3:=Blk.new ((w.alloc (.cells #[.int .u64 (hW a),.int .u64 (lW a)] 67)).alloc (.cells #[.int .u64 (hW b),.int .u64 (lW b)] 67)) 67 #[.int .u64 0,.int .u64 0]
 simp only[World.size_alloc] at h2 h3;exact⟨h1,h2,h3,ni ..⟩
theorem DX {a b t x y:Nat} (h:Twos (2^127) a b t x y):t<127:=by
 have h1:2^t*1≤2^t*x:=Nat.mul_le_mul_left _ h.x0;have h2:=h.xm;rw[Nat.mul_one] at h1;exact (Nat.pow_lt_pow_iff_right (a:=2) (by decide)).1 (Nat.lt_of_le_of_lt h1 h2)
theorem Qw (a b:Nat) (w:World) (ha:a<2^127) (eH:0<b) (hb:b<2^127):Calls Tryz.prog 24 #[uW a,uW b] w fun e w'=>e=.returned (uW (Nat.gcd a b))∧Below w.heap.size w w':=by
 have HS:=zh (GW.start w a b);by_cases a0:a=0
 ·have e0:decide (a=0)=true:=yD a0;have HG:Y0 (Nat.gcd a b=b):=by unfold Y0;rw[a0,Nat.gcd_zero_left]
  clear a0 ha eH hb;go_enter Tryz.func24,Tryz.ntmps24;go_upto_region 1 with fail;generalize ((w.alloc (.cells #[.int .u64 (hW a),.int .u64 (lW a)] 67)).alloc (.cells #[.int .u64 (hW b),.int .u64 (lW b)] 67)).alloc (.cells #[.int .u64 0,.int .u64 0] 67)=W1 at*;have x0:=HS.o.bx.cell 0;have x1:=HS.o.bx.cell 1;have y0:=HS.o.by_.cell 0;have y1:=HS.o.by_.cell 1;have r0:=HS.o.res.cell 0;have r1:=HS.o.res.cell 1
  have f0:=HS.o.res.frozen 0;have f1:=HS.o.res.frozen 1;simp only[aG,aH,aD] at x0 x1 y0 y1 r0 r1;go_wp2_with (first|(refine jX _ rfl _ _ rfl rfl rfl ?_;simp only[Act.put,aC,aB,aA,e0])|(refine m7 _ rfl _ _ rfl rfl rfl ?_;simp only[Act.put,aC,aB,aA,e0,Bool.not_true,Bool.not_false]));have hr:=((HS.o.res.set_ 0 (.int .u64 (hW b))).set_ 1 (.int .u64 (lW b)));have p0:=hr.cell 0
  have p1:=hr.cell 1;simp only[aC,aB,aA,aG,aH,aD] at p0 p1;refine YF (v:=.agg #[.int .u64 (hW b),.int .u64 (lW b)]) (by simp[results,Tryz.results24,go_sem,p0,p1]) rfl ?_;exact⟨by unfold uW;rw[HG.o],(HS.o.bel.setCell (p:=⟨w.heap.size+1+1,0,none⟩) (by show w.heap.size≤w.heap.size+1+1;omega) _).setCell (p:=⟨w.heap.size+1+1,1,none⟩) (by show w.heap.size≤w.heap.size+1+1;omega) _⟩
 have e0:decide (a=0)=false:=yC a0;have HT:Y0 (Twos (2^127) a b 0 a b):=⟨by omega,eH,by rw[Nat.pow_zero,Nat.one_mul];exact ha,hb,by rw[Nat.pow_zero,Nat.one_mul]⟩;clear a0 ha eH hb;go_enter Tryz.func24,Tryz.ntmps24;go_upto_region 1 with fail;generalize ((w.alloc (.cells #[.int .u64 (hW a),.int .u64 (lW a)] 67)).alloc (.cells #[.int .u64 (hW b),.int .u64 (lW b)] 67)).alloc (.cells #[.int .u64 0,.int .u64 0] 67)=W1 at*
 obtain⟨x0,x1⟩:=HS.o.bx.c2;go_wp2_with (first|(refine jX _ rfl _ _ rfl rfl rfl ?_;simp only[Act.put,aC,aB,aA,e0])|(refine m7 _ rfl _ _ rfl rfl rfl ?_;simp only[Act.put,aC,aB,aA,e0,Bool.not_true,Bool.not_false]));clear x0 x1;go_loopg [5] a (fun gk tw wr=>∃y t:Nat,tw=.int .i64 t∧Y0 (GW w wr gk y)∧Y0 (Twos (2^127) a b t gk y))
 case atStart=>exact⟨b,0,rfl,HS,HT⟩
 clear HS HT e0;obtain⟨y,t,rfl,HS,HT⟩:=hrel;obtain⟨x,rfl⟩:∃x,x=gk:=⟨_,rfl⟩;have x0:=HS.o.bx.cell 0;have x1:=HS.o.bx.cell 1;have y0:=HS.o.by_.cell 0;have y1:=HS.o.by_.cell 1;simp only[aG,aH,aD] at x0 x1 y0 y1;have xb:x<340282366920938463463374607431768211456:=Nat.lt_trans HT.o.xlt (by decide);have yb:y<340282366920938463463374607431768211456:=Nat.lt_trans HT.o.ym (by decide);have ht:=DX HT.o;have cB:=vy x
 have nB:=vy y;by_cases hx:x%2=0
 case' neg=>
  rw[yC hx] at cB;have HU:Y0 (Stn (2^127) (Nat.gcd x y) x y):=⟨HT.o.y0,HT.o.xlt,HT.o.ym,rfl,.inl (by omega)⟩;clear hx
 case' pos=>
  rw[yD hx] at cB;by_cases hy:y%2=0
  ·rw[yD hy] at nB;obtain⟨p,hp⟩:=zo (x/2);obtain⟨q,hq⟩:=zo (y/2);have P5:=HT.o.half hx hy;rw[hp,hq] at P5;have Au:=zh P5;have ao:Y0 (p<x):=by
    unfold Y0;rw[←hp];exact Nat.div_lt_self HT.o.x0 (by decide)
   have v1:IntKind.i64.wrap ((t:Int)+1)=(t:Int)+1:=yF _ (by omega);have Hp:=zh hp;have Hq:=zh hq;clear hx hy P5 hp hq;go_upto_region 5 with fail;have et:Y0 (GW w wr.drew x y):=HS.o.grow ((yB _ _).drew);clear HS HT cB nB ht;go_region_with (go_at_call 53;refine (Cl _ _ (by omega)).mono ?_;rintro e w5 ⟨rfl,aR⟩;(try rw[Hp.o]);(try rw[Hq.o]);have et:=zh (et.o.grow aR);have x0:=et.o.bx.cell 0;have x1:=et.o.bx.cell 1;have y0:=et.o.by_.cell 0;have y1:=et.o.by_.cell 1;simp only[aG,aH,aD] at x0 x1 y0 y1;have fx0:=et.o.bx.frozen 0;have fx1:=et.o.bx.frozen 1;have fy0:=et.o.by_.frozen 0;have fy1:=et.o.by_.frozen 1;clear aR)
   all_goals
    have iw:=zh ((et.o.putx p).puty q);clear x0 x1 y0 y1 fx0 fx1 fy0 fy1 et;go_wp2_with fail;go_roundg p
    case rel=>exact⟨q,t+1,by go_num,iw,Au⟩
    exact ao.o
  rw[yC hy] at nB;have HU:Y0 (Stn (2^127) (Nat.gcd x y) x y):=⟨HT.o.y0,HT.o.xlt,HT.o.ym,rfl,.inr (by omega)⟩;clear hx hy
 all_goals
  go_upto_region 6 with fail;have HG:Y0 (Nat.gcd a b=2^t*Nat.gcd x y):=HT.o.g;have HF:Y0 (2^t*Nat.gcd x y<2^127):=HT.o.glt;obtain⟨G,Pf⟩:∃G,Y0 (Nat.gcd x y=G):=⟨_,rfl⟩;rw[Pf.o] at HF HG HU;have Ht:Y0 (t<127):=ht;clear HT Pf cB nB ht xb yb x0 x1 y0 y1;go_loopg [] (x+y) (fun gk wr=>∃x2 y2:Nat,x2+y2=gk∧Y0 (GW w wr x2 y2)∧Y0 (Stn (2^127) G x2 y2))
  case atStart=>exact⟨x,y,rfl,HS,HU⟩
  clear HS HU;obtain⟨x2,y2,rfl,HS,HU⟩:=hrel;obtain⟨x0,x1⟩:=HS.o.bx.c2;have xb:x2<340282366920938463463374607431768211456:=Nat.lt_trans HU.o.xm (by decide);have yb:y2<340282366920938463463374607431768211456:=Nat.lt_trans HU.o.ym (by decide);by_cases h0:x2=0
  ·have e0:decide (x2=0)=true:=yD h0;have e0n:True:=trivial;have HGy:Y0 (y2=G):=by
    unfold Y0;rw[←HU.o.g,h0,Nat.gcd_zero_left]
   rw[HGy.o] at HS;clear HU HGy h0 yb;go_wp2_with (first|(refine jX _ rfl _ _ rfl rfl rfl ?_;simp only[Act.put,aC,aB,aA,e0,Bool.not_true,Bool.not_false])|(refine m7 _ rfl _ _ rfl rfl rfl ?_;simp only[Act.put,aC,aB,aA,e0,Bool.not_true]));clear x0 x1;have HF0:Y0 (2^(t-t)*G=G):=by unfold Y0;rw[Nat.sub_self,Nat.pow_zero,Nat.one_mul]
   go_loopw [5] (fun jx wr=>∃j:Nat,j≤t∧jx=.int .i64 j∧Y0 (GW w wr x2 (2^(t-j)*G))) (fun jx _=>(intOf jx).toNat)
   case atStart=>exact⟨t,yA _,rfl,by rw[HF0.o];exact HS⟩
   clear HS HF0;obtain⟨j,hj,rfl,HS⟩:=hrel;have ht:=Ht.o;have j0:(0:Int)≤(j:Int):=yE _;by_cases hj0:0<j
   ·have j1:(0:Int)<(j:Int):=by omega
    have hF2:2^(t-j)*G+2^(t-j)*G=2^(t-(j-1))*G:=by
     rw[show t-(j-1)=t-j+1 by omega,yW,yY,Nat.mul_left_comm];omega
    have hF3:2^(t-(j-1))*G<2^127:=Nat.lt_of_le_of_lt (Nat.mul_le_mul_right _ (Nat.pow_le_pow_right (by decide) (by omega))) HF.o;rw[show (2:Nat)^127=170141183460469231731687303715884105728 from rfl] at hF3;obtain⟨m,hm⟩:=zo (2^(t-(j-1))*G);rw[hm] at hF2 hF3;have Hm:=zh hm;clear hm;generalize 2^(t-j)*G=n at*;have v1:IntKind.i64.wrap ((j:Int)-1)=((j-1:Nat):Int):=(yF _ (by omega)).trans (by omega);have HSm:=zh hF2
    have hn:n+n<340282366920938463463374607431768211456:=by omega
    obtain⟨y0,y1⟩:=HS.o.by_.c2;clear hF2 hF3;go_wp2_with fail;refine (XM n n _ hn).mono ?_;rintro e w5 ⟨rfl,aR⟩;rw[HSm.o];have dY:=zh (HS.o.grow aR);clear y0 y1 aR HS;have y0:=dY.o.by_.cell 0;have y1:=dY.o.by_.cell 1;have f0:=dY.o.by_.frozen 0;have f1:=dY.o.by_.frozen 1;simp only[aG,aH,aD] at y0 y1;have GF:=zh (dY.o.puty m);clear dY;go_wp2_with fail;clear y0 y1 f0 f1;go_roundw
    case rel=>exact⟨j-1,by omega,rfl,by rw[Hm.o];exact GF⟩
    simp[intOf];omega
   obtain rfl:j=0:=by omega
   rw[Nat.sub_zero] at HS;have y0:=HS.o.by_.cell 0;have y1:=HS.o.by_.cell 1;have r0:=HS.o.res.cell 0;have r1:=HS.o.res.cell 1;have f0:=HS.o.res.frozen 0;have f1:=HS.o.res.frozen 1;simp only[aG,aH,aD] at y0 y1 r0 r1;generalize hz:2^t*G=z at*;have HG2:Y0 (Nat.gcd a b=z):=HG.o;have hr:=((HS.o.res.set_ 0 (.int .u64 (hW z))).set_ 1 (.int .u64 (lW z)));have p0:=hr.cell 0;have p1:=hr.cell 1;have HB:=zh HS.o.bel
   clear hz hr HS HG;go_wp2_with fail;simp only[aC,aB,aA,aG,aH,aD] at p0 p1;refine YF (v:=.agg #[.int .u64 (hW z),.int .u64 (lW z)]) (by simp[results,Tryz.results24,go_sem,p0,p1]) rfl ?_;exact⟨by unfold uW;rw[HG2.o],(HB.o.setCell (p:=⟨w.heap.size+1+1,0,none⟩) (by show w.heap.size≤w.heap.size+1+1;omega) _).setCell (p:=⟨w.heap.size+1+1,1,none⟩) (by show w.heap.size≤w.heap.size+1+1;omega) _⟩
  have e0:decide (x2=0)=false:=yC h0;have e0n:True:=trivial;have H0:Y0 (0<x2):=Nat.pos_of_ne_zero h0;clear h0;go_wp2_with (first|(refine jX _ rfl _ _ rfl rfl rfl ?_;simp only[Act.put,aC,aB,aA,e0,Bool.not_true,Bool.not_false])|(refine m7 _ rfl _ _ rfl rfl rfl ?_;simp only[Act.put,aC,aB,aA,e0,Bool.not_false]));clear x0 x1 xb yb e0 e0n;go_loopg [] x2 (fun gk wr=>Y0 (GW w wr gk y2)∧Y0 (Stn (2^127) G gk y2)∧Y0 (0<gk∧gk≤x2))
  case atStart=>exact⟨HS,HU,⟨H0.o,yA _⟩⟩
  clear HS HU H0;obtain⟨HS,HU,HR⟩:=hrel;obtain⟨x4,rfl⟩:∃x4,x4=gk:=⟨_,rfl⟩;obtain⟨x0,x1⟩:=HS.o.bx.c2;have xb:x4<340282366920938463463374607431768211456:=Nat.lt_trans HU.o.xm (by decide);have cB:=vy x4;by_cases oG:x4%2=0
  ·rw[yD oG] at cB;obtain⟨p,hp⟩:=zo (x4/2);have hU2:=HU.o.left oG;rw[hp] at hU2;have OY:=zh hU2;have MM:Y0 (0<p∧p≤x2):=by have:=HR.o;unfold Y0;omega
   have DK:Y0 (p<x4):=by have:=HR.o;unfold Y0;omega
   have Hp:=zh hp;clear oG hp hU2 HU HR;go_wp2_with fail;refine (Cl _ _ xb).mono ?_;rintro e w5 ⟨rfl,aR⟩;rw[Hp.o];have dY:=zh (HS.o.grow aR);clear x0 x1 aR HS cB;have x0:=dY.o.bx.cell 0;have x1:=dY.o.bx.cell 1;have f0:=dY.o.bx.frozen 0;have f1:=dY.o.bx.frozen 1;simp only[aG,aH,aD] at x0 x1;have GF:=zh (dY.o.putx p);clear dY;go_wp2_with fail;clear x0 x1 f0 f1;go_roundg p
   case rel=>exact⟨GF,OY,MM⟩
   exact DK.o
  rw[yC oG] at cB;have Wz:Y0 (x4%2=1):=by unfold Y0;omega
  clear oG xb;go_wp2_with fail;clear x0 x1 cB;go_loopg [] y2 (fun gk wr=>Y0 (GW w wr x4 gk)∧Y0 (Stn (2^127) G x4 gk)∧Y0 (gk≤y2))
  case atStart=>exact⟨HS,HU,yA _⟩
  clear HS HU;obtain⟨HS,HU,HY⟩:=hrel;obtain⟨y4,rfl⟩:∃y4,y4=gk:=⟨_,rfl⟩;obtain⟨y0,y1⟩:=HS.o.by_.c2;have yb:y4<340282366920938463463374607431768211456:=Nat.lt_trans HU.o.ym (by decide);have xb:x4<340282366920938463463374607431768211456:=Nat.lt_trans HU.o.xm (by decide);have nB:=vy y4;by_cases oG:y4%2=0
  ·rw[yD oG] at nB;obtain⟨p,hp⟩:=zo (y4/2);have hU2:=HU.o.right Wz.o oG;rw[hp] at hU2;have OY:=zh hU2;have rh:Y0 (p≤y2):=by have:=HY.o;unfold Y0;omega
   have DK:Y0 (p<y4):=by have:=HU.o.y0;unfold Y0;omega
   have Hp:=zh hp;clear oG hp hU2 HU HY xb;go_wp2_with fail;refine (Cl _ _ yb).mono ?_;rintro e w5 ⟨rfl,aR⟩;rw[Hp.o];have dY:=zh (HS.o.grow aR);clear y0 y1 aR HS nB;have y0:=dY.o.by_.cell 0;have y1:=dY.o.by_.cell 1;have f0:=dY.o.by_.frozen 0;have f1:=dY.o.by_.frozen 1;simp only[aG,aH,aD] at y0 y1;have GF:=zh (dY.o.puty p);clear dY;go_wp2_with fail;clear y0 y1 f0 f1;go_roundg p
   case rel=>exact⟨GF,OY,rh⟩
   exact DK.o
  rw[yC oG] at nB;have HOy:Y0 (y4%2=1):=by unfold Y0;omega
  obtain⟨x0,x1⟩:=HS.o.bx.c2;clear oG;go_wp2_with fail;refine (Lt x4 y4 _).mono ?_;rintro e w7 ⟨rfl,lF⟩;have dP:=zh (HS.o.grow lF);clear x0 x1 y0 y1 lF HS nB;have x0:=dP.o.bx.cell 0;have x1:=dP.o.bx.cell 1;have y0:=dP.o.by_.cell 0;have y1:=dP.o.by_.cell 1;simp only[aG,aH,aD] at x0 x1 y0 y1;by_cases ao:x4<y4
  ·rw[yD ao];have uT:=zh (YG ao);have HU7:=zh ((HU.o.swap Wz.o).diff Wz.o (YG ao));have HM:Y0 (y4-x4+x4<x2+y2):=by have:=HR.o;have:=HY.o;unfold Y0;omega
   have f0:=dP.o.bx.frozen 0;have f1:=dP.o.bx.frozen 1;have g0:=dP.o.by_.frozen 0;have g1:=dP.o.by_.frozen 1;have dt:=zh ((dP.o.putx y4).puty x4);clear ao HU dP;go_upto_region 13 with fail;generalize (((w7.setCell ⟨w.heap.size,0,none⟩ (.int .u64 (hW y4))).setCell ⟨w.heap.size,1,none⟩ (.int .u64 (lW y4))).setCell ⟨w.heap.size+1,0,none⟩ (.int .u64 (hW x4))).setCell ⟨w.heap.size+1,1,none⟩ (.int .u64 (lW x4))=w8 at*
   clear x0 x1 y0 y1 f0 f1 g0 g1;have x0:=dt.o.bx.cell 0;have x1:=dt.o.bx.cell 1;have y0:=dt.o.by_.cell 0;have y1:=dt.o.by_.cell 1;simp only[aG,aH,aD] at x0 x1 y0 y1;go_wp2_with fail;refine (wP y4 x4 _ yb uT.o).mono ?_;rintro e w9 ⟨rfl,jz⟩;have nP:=zh (dt.o.grow jz);clear x0 x1 y0 y1 jz dt;generalize y4-x4=d at*;have x0:=nP.o.bx.cell 0;have x1:=nP.o.bx.cell 1;have f0:=nP.o.bx.frozen 0;have f1:=nP.o.bx.frozen 1
   simp only[aG,aH,aD] at x0 x1;have vwV:=zh (nP.o.putx d);clear nP;go_wp2_with fail;clear x0 x1 f0 f1;go_roundg (d+x4)
   case rel=>exact⟨d,x4,rfl,vwV,HU7⟩
   exact HM.o
  rw[yC ao];have uT:=zh (Nat.not_lt.1 ao);have HU7:=zh (HU.o.diff HOy.o (Nat.not_lt.1 ao));have HM:Y0 (x4-y4+y4<x2+y2):=by have:=HR.o;have:=HY.o;have:=HU.o.y0;unfold Y0;omega
  clear ao HU;go_wp2_with fail;refine (wP x4 y4 _ xb uT.o).mono ?_;rintro e w9 ⟨rfl,jz⟩;have nP:=zh (dP.o.grow jz);clear x0 x1 y0 y1 jz dP;generalize x4-y4=d at*;have x0:=nP.o.bx.cell 0;have x1:=nP.o.bx.cell 1;have f0:=nP.o.bx.frozen 0;have f1:=nP.o.bx.frozen 1;simp only[aG,aH,aD] at x0 x1;have vwV:=zh (nP.o.putx d);clear nP;go_wp2_with fail;clear x0 x1 f0 f1;go_roundg (d+y4)
  case rel=>exact⟨d,y4,rfl,vwV,HU7⟩
  exact HM.o
