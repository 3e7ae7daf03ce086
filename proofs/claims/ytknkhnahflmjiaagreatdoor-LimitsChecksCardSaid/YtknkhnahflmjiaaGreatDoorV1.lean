/- Lemmas. -/
import Derived.Deep.DeepCutAuto
import Derived.Shelf.Bits.Mul64
import Derived.Shelf.Strconv.Itoa3
import Derived.Test.YtknkhnahflmjiaaGreatDoorT7
namespace Go.Proofs.YtknkhnahflmjiaaGreatDoor
set_option maxRecDepth 100000
set_option maxHeartbeats 40000000
open Go.RowKit Go.Shelf
def Q0:Ren:=⟨fun|264=>99|n=>n,fun|46=>168|53=>85|n=>n,fun n=>n⟩
theorem KM:Lays.n264 Tryz.prog Q0:={
 mixed:=by kernel_rfl
 f264:=Tryz.func99.trans (congrArg some (by kernel_rfl))
 t46:=Tryz.underlying168
 a46:=Tryz.isAgg168
 z46:=Tryz.sizeOf168
 v46:=Tryz.zeroValue168
 t53:=Tryz.underlying85
 a53:=Tryz.isAgg85
 z53:=Tryz.sizeOf85
 v53:=Tryz.zeroValue85 }
theorem LD (x y:Nat) (hx:x<18446744073709551616) (hy:y<18446744073709551616) (w:World) :
  Calls Tryz.prog 99 #[.int .u64 x,.int .u64 y] w fun e w'=>e=.returned (.tuple #[.int .u64 ((x*y/18446744073709551616:Nat):Int),.int .u64 ((x*y%18446744073709551616:Nat):Int)])∧w'=w :=
 Any.bits_Mul64 KM x y hx hy w
def Jq:Ren:=⟨fun|129=>189|171=>21|243=>67|246=>107|283=>148|284=>149|285=>150|286=>151|317=>199|318=>200|319=>201|320=>202|337=>245|338=>246|n=>n,fun|0=>0|2=>2|3=>3|4=>4|5=>5|9=>9|20=>20|37=>181|46=>168|51=>232|53=>85|171=>179|173=>182|212=>231|213=>233|232=>301|233=>302|n=>n,fun|17=>2|18=>3|19=>4|n=>n⟩
theorem CJ:Lays.n171 Tryz.prog Jq:={
 mixed:=by kernel_rfl
 f129:=Tryz.func189.trans (congrArg some (by kernel_rfl))
 f171:=Tryz.func21.trans (congrArg some (by kernel_rfl))
 f243:=Tryz.func67.trans (congrArg some (by kernel_rfl))
 f246:=Tryz.func107.trans (congrArg some (by kernel_rfl))
 f283:=Tryz.func148.trans (congrArg some (by kernel_rfl))
 f284:=Tryz.func149.trans (congrArg some (by kernel_rfl))
 f285:=Tryz.func150.trans (congrArg some (by kernel_rfl))
 f286:=Tryz.func151.trans (congrArg some (by kernel_rfl))
 f317:=Tryz.func199.trans (congrArg some (by kernel_rfl))
 f318:=Tryz.func200.trans (congrArg some (by kernel_rfl))
 f319:=Tryz.func201.trans (congrArg some (by kernel_rfl))
 f320:=Tryz.func202.trans (congrArg some (by kernel_rfl))
 f337:=Tryz.func245.trans (congrArg some (by kernel_rfl))
 f338:=Tryz.func246.trans (congrArg some (by kernel_rfl))
 t0:=Tryz.underlying0
 a0:=Tryz.isAgg0
 z0:=Tryz.sizeOf0
 v0:=Tryz.zeroValue0
 t2:=Tryz.underlying2
 a2:=Tryz.isAgg2
 z2:=Tryz.sizeOf2
 v2:=Tryz.zeroValue2
 t3:=Tryz.underlying3
 a3:=Tryz.isAgg3
 z3:=Tryz.sizeOf3
 v3:=Tryz.zeroValue3
 t4:=Tryz.underlying4
 a4:=Tryz.isAgg4
 z4:=Tryz.sizeOf4
 v4:=Tryz.zeroValue4
 t5:=Tryz.underlying5
 a5:=Tryz.isAgg5
 z5:=Tryz.sizeOf5
 v5:=Tryz.zeroValue5
 t9:=Tryz.underlying9
 a9:=Tryz.isAgg9
 z9:=Tryz.sizeOf9
 v9:=Tryz.zeroValue9
 t20:=Tryz.underlying20
 a20:=Tryz.isAgg20
 z20:=Tryz.sizeOf20
 v20:=Tryz.zeroValue20
 t37:=Tryz.underlying181
 a37:=Tryz.isAgg181
 z37:=Tryz.sizeOf181
 v37:=Tryz.zeroValue181
 t46:=Tryz.underlying168
 a46:=Tryz.isAgg168
 z46:=Tryz.sizeOf168
 v46:=Tryz.zeroValue168
 t51:=Tryz.underlying232
 a51:=Tryz.isAgg232
 z51:=Tryz.sizeOf232
 v51:=Tryz.zeroValue232
 t53:=Tryz.underlying85
 a53:=Tryz.isAgg85
 z53:=Tryz.sizeOf85
 v53:=Tryz.zeroValue85
 t171:=Tryz.underlying179
 a171:=Tryz.isAgg179
 z171:=Tryz.sizeOf179
 v171:=Tryz.zeroValue179
 t173:=Tryz.underlying182
 a173:=Tryz.isAgg182
 z173:=Tryz.sizeOf182
 v173:=Tryz.zeroValue182
 t212:=Tryz.underlying231
 a212:=Tryz.isAgg231
 z212:=Tryz.sizeOf231
 v212:=Tryz.zeroValue231
 t213:=Tryz.underlying233
 a213:=Tryz.isAgg233
 z213:=Tryz.sizeOf233
 t232:=Tryz.underlying301
 a232:=Tryz.isAgg301
 z232:=Tryz.sizeOf301
 v232:=Tryz.zeroValue301
 t233:=Tryz.underlying302
 a233:=Tryz.isAgg302
 z233:=Tryz.sizeOf302
 v233:=Tryz.zeroValue302
 g17:=by kernel_rfl
 g18:=by kernel_rfl
 g19:=by kernel_rfl }
def CK (i:Nat):ByteArray:=⟨(Lib.decDigits i).toArray⟩
theorem Ua (i:Nat) (hi:i<100) (w:World):Calls Tryz.prog 21 #[.int .i64 i] w fun e w'=>e=.returned (.string (CK i))∧w'=w :=
 Any.strconv_Itoa_small CJ i hi w
abbrev cF (n:Nat):Value:=.agg #[.int .u64 ((n/18446744073709551616:Nat):Int),.int .u64 ((n%18446744073709551616:Nat):Int)]
theorem KC (x y:Nat) (hx:x<18446744073709551616) (hy:y<18446744073709551616) (w:World) :
  Calls Tryz.prog 56 #[.int .u64 x,.int .u64 y] w fun e w'=>e=.returned (cF (x*y))∧Below w.heap.size w w':=by
 have hM:=fun W=>LD x y hx hy W;have HD:=zh (Blk.new w 89 #[.int .u64 0,.int .u64 0]);have HB:=zh ((yB _ w).alloc (yA _) (.cells #[.int .u64 0,.int .u64 0] 89));clear hx hy;unfold cF;generalize ((x*y/18446744073709551616:Nat):Int)=h at*;generalize ((x*y%18446744073709551616:Nat):Int)=l at*;have z0:=HD.o.cell 0;have z1:=HD.o.cell 1;have f0:=HD.o.frozen 0;have f1:=HD.o.frozen 1;simp only[aB,aD,aA] at z0 z1
 go_enter Tryz.func56,Tryz.ntmps56;go_wp2_with (go_at_call 99;refine (hM _).mono ?_;rintro e w' ⟨rfl,rfl⟩);refine YF (v:=.agg #[.int .u64 h,.int .u64 l]) (by simp[results,Tryz.results56,go_sem]) rfl ?_;exact⟨rfl,(yB _ w).alloc (yA _) _⟩
theorem yt {m n K:Nat} (hK:0<K):m<n↔m/K<n/K∨(m/K=n/K∧m%K<n%K):=by
 have hm:=YI m K;have hn:=YI n K;have h1:=YJ m hK;have h2:=YJ n hK;constructor
 ·intro h;rcases Nat.lt_trichotomy (m/K) (n/K) with h3|h3|h3
  ·exact .inl h3
  ·refine .inr ⟨h3,?_⟩;rw[h3] at hm;omega
  exfalso
  have:K*(n/K+1)≤K*(m/K):=Nat.mul_le_mul_left K h3;rw[yX] at this;omega
 rintro (h3|⟨h3,h4⟩)
 ·have:K*(m/K+1)≤K*(n/K):=Nat.mul_le_mul_left K h3;rw[yX] at this;omega
 rw[h3] at hm;omega
theorem Fi (m n:Nat) (w:World):Calls Tryz.prog 59 #[cF m,cF n] w fun e w'=>e=.returned (.bool (decide (m<n)))∧Below w.heap.size w w':=by
 have HV:Y0 ((m<n)↔_):=yt (m:=m) (n:=n) (K:=18446744073709551616) (by decide);have HD:=zh (Blk.new w 89 #[.int .u64 ((m/18446744073709551616:Nat):Int),.int .u64 ((m%18446744073709551616:Nat):Int)]);have cP:=zh ((Blk.new w 89 #[.int .u64 ((m/18446744073709551616:Nat):Int),.int .u64 ((m%18446744073709551616:Nat):Int)]).alloc (.cells #[.int .u64 ((n/18446744073709551616:Nat):Int),.int .u64 ((n%18446744073709551616:Nat):Int)] 89))
 have HB:=zh (((yB _ w).alloc (yA _) (.cells #[.int .u64 ((m/18446744073709551616:Nat):Int),.int .u64 ((m%18446744073709551616:Nat):Int)] 89)).alloc (by simp) (.cells #[.int .u64 ((n/18446744073709551616:Nat):Int),.int .u64 ((n%18446744073709551616:Nat):Int)] 89));unfold cF;generalize m/18446744073709551616=mh at*;generalize m%18446744073709551616=ml at*;generalize n/18446744073709551616=nh at*;generalize n%18446744073709551616=nl at*
 by_cases h1:mh<nh
 ·have d1:decide (mh<nh)=true:=yD h1;have HR:Y0 (decide (m<n)=true):=yD (HV.o.2 (.inl h1));clear h1;go_enter Tryz.func59,Tryz.ntmps59;go_wp2;go_ret;exact⟨Ze HR.o.symm,HB.o⟩
 have d1:decide (mh<nh)=false:=yC h1;by_cases h2:mh=nh
 ·subst h2;have HR:Y0 (decide (m<n)=decide (ml<nl)):=by
   unfold Y0;rw[Bool.eq_iff_iff,yP,yP,HV.o];omega
  clear h1;go_enter Tryz.func59,Tryz.ntmps59;go_wp2;go_ret;exact⟨Ze HR.o.symm,HB.o⟩
 have d2:((mh:Int)==(nh:Int))=false:=zb (by omega);have HR:Y0 (decide (m<n)=false):=yC (by rw[HV.o];omega);clear h1 h2;go_enter Tryz.func59,Tryz.ntmps59;go_wp2;go_ret;exact⟨Ze HR.o.symm,HB.o⟩
def eI (a b:FrT):Int:=if a.num*b.den<b.num*a.den then -1 else if b.num*a.den<a.num*b.den then 1 else 0
theorem bB {x:FrT} (h:aj x=true):1≤x.den∧x.den≤1152921504606846976 ∧ -1152921504606846976≤x.num∧x.num≤1152921504606846976:=by
 unfold aj at h;simp only[Bool.and_eq_true,decide_eq_true_eq] at h;exact⟨h.1.1.1.1,h.1.1.1.2,h.1.1.2,h.1.2⟩
def oy (B:Nat) (v:Value) (w:World):Prop:=∃g,v=.pointer (some ⟨g,0,none⟩)∧B≤g∧Blk w g 89 #[.int .u64 0,.int .u64 0]
def XJ (B:Nat):GPost:=⟨fun v=>∃g,v=.pointer (some ⟨g,0,none⟩),oy B,⟨_,0,rfl⟩,fun _ _ _ hb h=>by
 obtain⟨g,h1,h2,h3⟩:=h;exact⟨g,h1,h2,h3.below hb h3.lt⟩,true⟩
theorem mB {P:Program} {o:Oper} {a:Act} {w:World} {B:Nat} (hB:B≤w.heap.size) (h:(execOp a.eval o).run P w=.ok (.value (.pointer (some ⟨w.heap.size,0,none⟩))) (w.alloc (.cells #[.int .u64 0,.int .u64 0] 89))):jv P o a (XJ B) w :=
 ⟨_,_,h,(yB _ _).alloc (yA _) _,⟨_,rfl⟩,⟨_,rfl,hB,Blk.new _ _ _⟩,fun _=>⟨w.heap.size,rfl,yA _,by simp⟩⟩
theorem rQ {n:Int} (w:World) (h1 : -1152921504606846976≤n) (h2:n≤1152921504606846976) :
  Calls Tryz.prog 55 #[.int .i64 n] w fun e w'=>∃v,e=.returned v∧Below w.heap.size w w'∧(gV (.int .u64 (n.natAbs:Nat))).σ v∧(gV (.int .u64 (n.natAbs:Nat))).φ v w' :=
 (Fh n w h1 h2).mono fun _ _ ⟨he,hw⟩=>⟨_,he,hw▸yB _ _,rfl,trivial⟩
theorem pQ {x y:Nat} (w:World) (hx:x<18446744073709551616) (hy:y<18446744073709551616) :
  Calls Tryz.prog 56 #[.int .u64 x,.int .u64 y] w fun e w'=>∃v,e=.returned v∧Below w.heap.size w w'∧(gV (cF (x*y))).σ v∧(gV (cF (x*y))).φ v w' :=
 (KC x y hx hy w).mono fun _ _ ⟨he,hb⟩=>⟨_,he,hb,rfl,trivial⟩
theorem zn {o w W:World} {g6 g7:Nat} {xn xd yn yd:Value} (hB:Below w.heap.size w W) (h6:w.heap.size + 1 < g6) (h7:w.heap.size + 1 < g7) (fS:g7 ≠ g6) (b6:Blk W g6 89 #[.int .u64 0,.int .u64 0]) (b7:Blk W g7 89 #[.int .u64 0,.int .u64 0])
  (d0:Blk W w.heap.size 23 #[xn,xd]) (d1:Blk W (w.heap.size+1) 23 #[yn,yd]) (x0 x1 y0 y1:Value) (hW:o=((((W.setCell ⟨g6,0,none⟩ x0).setCell ⟨g6,1,none⟩ x1).setCell ⟨g7,0,none⟩ y0).setCell ⟨g7,1,none⟩ y1)) :
  Below w.heap.size w o∧Blk o g6 89 #[x0,x1]∧Blk o g7 89 #[y0,y1]∧Blk o w.heap.size 23 #[xn,xd]∧Blk o (w.heap.size+1) 23 #[yn,yd]:=by
 subst hW;have k4:=fun {g:Nat} {t:TypeId} {c:Array Value} (hb:Blk W g t c) (h1:g≠g6) (h2:g≠g7)=>(((hb.far (p:=⟨g6,0,none⟩) h1 x0).far (p:=⟨g6,1,none⟩) h1 x1).far (p:=⟨g7,0,none⟩) h2 y0).far (p:=⟨g7,1,none⟩) h2 y1;exact⟨(((hB.setCell (by show w.heap.size≤g6;omega) _).setCell (by show w.heap.size≤g6;omega) _).setCell (by show w.heap.size≤g7;omega) _).setCell (by show w.heap.size≤g7;omega) _,
  (((b6.set_ 0 x0).set_ 1 x1).far (p:=⟨g7,0,none⟩) (Ne.symm fS) y0).far (p:=⟨g7,1,none⟩) (Ne.symm fS) y1,(((b7.far (p:=⟨g6,0,none⟩) fS x0).far (p:=⟨g6,1,none⟩) fS x1).set_ 0 y0).set_ 1 y1,k4 d0 (by omega) (by omega),k4 d1 (by omega) (by omega)⟩
theorem Vw {a b:FrT} (ha:aj a=true) (hb:aj b=true) (h0:0≤a.num) (gj:0≤b.num):(a.num*b.den<b.num*a.den↔a.num.natAbs*b.den.natAbs<b.num.natAbs*a.den.natAbs)∧(b.num*a.den<a.num*b.den↔b.num.natAbs*a.den.natAbs<a.num.natAbs*b.den.natAbs):=by
 have h1:=(bB ha).1;have h2:=(bB hb).1;obtain⟨an,ad⟩:=a;obtain⟨bn,bd⟩:=b;simp only at*;obtain⟨x,rfl⟩:=Int.eq_ofNat_of_zero_le h0;obtain⟨y,rfl⟩:=Int.eq_ofNat_of_zero_le gj;obtain⟨u,rfl⟩:=Int.eq_ofNat_of_zero_le (show 0≤ad by omega);obtain⟨v,rfl⟩:=Int.eq_ofNat_of_zero_le (show 0≤bd by omega);simp only[Int.natAbs_natCast];rw[←Int.natCast_mul,←Int.natCast_mul];omega
theorem Vv {a b:FrT} (ha:aj a=true) (hb:aj b=true) (h0:a.num<0) (gj:0≤b.num):eI a b=-1:=by
 have h1:=(bB ha).1;have h2:=(bB hb).1;unfold eI;have e1:a.num*b.den<0:=Int.mul_neg_of_neg_of_pos h0 (by omega);have e2:0≤b.num*a.den:=Int.mul_nonneg gj (by omega);rw[if_pos (by omega)]
theorem Sq {a b:FrT} (ha:aj a=true) (hb:aj b=true) (h0:a.num<0) (gj:b.num<0):(a.num*b.den<b.num*a.den↔b.num.natAbs*a.den.natAbs<a.num.natAbs*b.den.natAbs)∧(b.num*a.den<a.num*b.den↔a.num.natAbs*b.den.natAbs<b.num.natAbs*a.den.natAbs):=by
 have h1:=(bB ha).1;have h2:=(bB hb).1;obtain⟨an,ad⟩:=a;obtain⟨bn,bd⟩:=b;simp only at*;obtain⟨x,rfl⟩:∃x:Nat,an=-(x:Int):=⟨an.natAbs,by omega⟩;obtain⟨y,rfl⟩:∃y:Nat,bn=-(y:Int):=⟨bn.natAbs,by omega⟩;obtain⟨u,rfl⟩:=Int.eq_ofNat_of_zero_le (show 0≤ad by omega);obtain⟨v,rfl⟩:=Int.eq_ofNat_of_zero_le (show 0≤bd by omega);simp only[Int.natAbs_natCast,Int.natAbs_neg,Int.neg_mul];rw[←Int.natCast_mul,←Int.natCast_mul]
 omega
theorem Vu {a b:FrT} (ha:aj a=true) (hb:aj b=true) (h0:0≤a.num) (gj:b.num<0):eI a b=1:=by
 have h1:=(bB ha).1;have h2:=(bB hb).1;unfold eI;have e1:b.num*a.den<0:=Int.mul_neg_of_neg_of_pos gj (by omega);have e2:0≤a.num*b.den:=Int.mul_nonneg h0 (by omega);rw[if_neg (by omega),if_pos (by omega)]
def sI (m n:Nat):Int:=if m<n then -1 else if n<m then 1 else 0
theorem DF {a b:FrT} (ha:aj a=true) (hb:aj b=true):(a.num<0→0≤b.num→eI a b=-1)∧(0≤a.num→b.num<0→eI a b=1)∧(0≤a.num→0≤b.num→eI a b=sI (a.num.natAbs*b.den.natAbs) (b.num.natAbs*a.den.natAbs))∧(a.num<0→b.num<0→eI a b=sI (b.num.natAbs*a.den.natAbs) (a.num.natAbs*b.den.natAbs)) :=
 ⟨Vv ha hb,Vu ha hb,fun h0 h1=>by have h:=Vw ha hb h0 h1;unfold eI sI;simp only[h.1,h.2],fun h0 h1=>by have h:=Sq ha hb h0 h1;unfold eI sI;simp only[h.1,h.2]⟩
theorem Az {m n:Nat} (h:m<n):sI m n=-1:=if_pos h
theorem AA {m n:Nat} (h:n<m):sI m n=1:=by unfold sI;rw[if_neg (by omega),if_pos h]
theorem AB {m n:Nat} (h:m=n):sI m n=0:=by unfold sI;rw[if_neg (by omega),if_neg (by omega)]
theorem Nu (a b:FrT) (w:World) (ha:aj a=true) (hb:aj b=true) :
  Calls Tryz.prog 31 #[a.val,b.val] w fun e w'=>e=.returned (.tuple #[.int .i64 (eI a b),.int .i64 0])∧Below w.heap.size w w':=by
 have jA:=fun W=>gi a W;have Aa:=fun W=>gi b W;rw[ha] at jA;rw[hb] at Aa;have HX:=zh (DF ha hb);obtain⟨a1,a2,a3,a4⟩:=bB ha;obtain⟨b1,b2,b3,b4⟩:=bB hb;have wa:IntKind.u64.wrap a.den=((a.den.natAbs:Nat):Int):=by show a.den%18446744073709551616=_;omega
 have wb:IntKind.u64.wrap b.den=((b.den.natAbs:Nat):Int):=by show b.den%18446744073709551616=_;omega
 have hSa:=fun W=>rQ (n:=a.num) W a3 a4;have hSb:=fun W=>rQ (n:=b.num) W b3 b4;have hP1:=fun W=>pQ (x:=a.num.natAbs) (y:=b.den.natAbs) W (by omega) (by omega);have hP2:=fun W=>pQ (x:=b.num.natAbs) (y:=a.den.natAbs) W (by omega) (by omega);clear ha hb a1 a2 a3 a4 b1 b2 b3 b4;generalize eI a b=cr at*;obtain⟨an,ad⟩:=a;obtain⟨bn,bd⟩:=b;simp only at*;have zl:=zh hSa;have Bl:=zh hSb;have Bn:=zh hP1;have Bm:=zh hP2
 clear hSa hSb hP1 hP2;have D0:=(Blk.new w 23 #[.int .i64 an,.int .i64 ad]).alloc (.cells #[.int .i64 bn,.int .i64 bd] 23);have D1:=Blk.new (w.alloc (.cells #[.int .i64 an,.int .i64 ad] 23)) 23 #[.int .i64 bn,.int .i64 bd];rw[yZ] at D1;have hB:=((yB _ w).alloc (yA _) (.cells #[.int .i64 an,.int .i64 ad] 23)).alloc (by simp) (.cells #[.int .i64 bn,.int .i64 bd] 23);have hs:((w.alloc (.cells #[.int .i64 an,.int .i64 ad] 23)).alloc (.cells #[.int .i64 bn,.int .i64 bd] 23)).heap.size=w.heap.size+1+1:=by simp
 go_enter Tryz.func31,Tryz.ntmps31;go_wp2_with fail;generalize (w.alloc (.cells #[.int .i64 an,.int .i64 ad] 23)).alloc (.cells #[.int .i64 bn,.int .i64 bd] 23)=W1 at*;refine (jA W1).mono ?_;rintro e w2 ⟨rfl,bg⟩;have D0:=D0.below bg D0.lt;have D1:=D1.below bg D1.lt;have hB:=hB.trans (bg.mono hB.size);have hs:w.heap.size+1<w2.heap.size:=by have:=bg.size;omega
 obtain⟨u0,u1⟩:=D1.c2;go_wp2_with fail;refine (Aa w2).mono ?_;rintro e w3 ⟨rfl,bZ⟩;clear u0 u1 jA Aa;have D0:=zh (D0.below bZ D0.lt);have D1:=zh (D1.below bZ D1.lt);have HB:=zh (hB.trans (bZ.mono hB.size));have Hs:Y0 (w.heap.size+1<w3.heap.size):=by have:=bZ.size;unfold Y0;omega
 clear bg bZ hB hs;go_wp2_with (exact zX);have y0:=D0.o.cell 0;have y1:=D0.o.cell 1;have y2:=D1.o.cell 0;have y3:=D1.o.cell 1;simp only[aB,aD,aA] at y0 y1 y2 y3;have u0:=YL y0;have u1:=YL y1;have u2:=YL y2;have u3:=YL y3;clear y0 y1 y2 y3;refine dt 16 (fun jx=>if jx=2 then some (gV (.int .u64 (an.natAbs:Nat))) else if jx=6 then some (gV (cF (an.natAbs*bd.natAbs))) else if jx=9 then some (gV (.int .u64 (bn.natAbs:Nat))) else if jx=13 then some (gV (cF (bn.natAbs*ad.natAbs))) else if jx=14 then some (XJ w3.heap.size) else if jx=15 then some (XJ w3.heap.size) else none) [6,7] (by kernel_rfl) (by kernel_rfl) (by kernel_rfl) (kV rfl rfl) ?_
 simp only[aO,aR,aP,aQ];refine zw 2 ?_;simp only[aO,aR,aP,aQ]
 repeat (go_big_quiet_step (fail))
 refine YE ?_;refine ae rfl rfl (fun w1 _ _=>zc (zl.o w1)) ?_;rintro _ rfl;simp only[Act.put,aw,av,au];refine zw 3 ?_;simp only[aO,aR,aP,aQ]
 repeat (go_big_quiet_step (fail))
 refine YE ?_;refine ae rfl rfl (fun w1 _ _=>zc (Bn.o w1)) ?_;rintro _ rfl;simp only[Act.put,aw,av,au];refine zw 2 ?_;simp only[aO,aR,aP,aQ]
 repeat (go_big_quiet_step (fail))
 refine YE ?_;refine ae rfl rfl (fun w1 _ _=>zc (Bl.o w1)) ?_;rintro _ rfl;simp only[Act.put,aw,av,au];refine zw 3 ?_;simp only[aO,aR,aP,aQ]
 repeat (go_big_quiet_step (fail))
 refine YE ?_;refine ae rfl rfl (fun w1 _ _=>zc (Bm.o w1)) ?_;rintro _ rfl;simp only[Act.put,aw,av,au];refine aX rfl rfl (fun w1 ak _=>mB ak.size (by go_simp)) ?_;rintro _ ⟨g6,rfl⟩;simp only[Act.put,aw,av,au];refine aX rfl rfl (fun w1 ak _=>mB ak.size (by go_simp)) ?_;rintro _ ⟨g7,rfl⟩;simp only[Act.put,aw,av,au];refine Zc ?_;intro w8 aT hF hA;have h6:oy w3.heap.size (.pointer (some ⟨g6,0,none⟩)) w8:=hF 6
 have h7:oy w3.heap.size (.pointer (some ⟨g7,0,none⟩)) w8:=hF 7;have yf:g7≠g6:=fun e=>(hA 6 (by simp) g6 rfl).2 7 (by simp) (by decide) (by rw[e];rfl);have Ts:=D0.o.below aT D0.o.lt;have Tr:=D1.o.below aT D1.o.lt;have B8:=HB.o.trans (aT.mono HB.o.size);obtain⟨_,e6,l6,b6⟩:=h6;obtain⟨_,e7,l7,b7⟩:=h7;injection e6 with e6;injection e6 with e6;injection e6 with e6 _ _;injection e7 with e7;injection e7 with e7
 injection e7 with e7 _ _;subst e6 e7;have xi:=Hs.o;obtain⟨B9,p6,p7,p0,p1⟩:=zn B8 (by omega) (by omega) yf b6 b7 Ts Tr (.int .u64 ((an.natAbs*bd.natAbs/18446744073709551616:Nat):Int)) (.int .u64 ((an.natAbs*bd.natAbs%18446744073709551616:Nat):Int)) (.int .u64 ((bn.natAbs*ad.natAbs/18446744073709551616:Nat):Int)) (.int .u64 ((bn.natAbs*ad.natAbs%18446744073709551616:Nat):Int)) rfl;have kl:Y0 ((an<0→0≤bn→cr=-1)∧(0≤an→bn<0→cr=1)∧(0≤an→0≤bn→cr=sI (an.natAbs*bd.natAbs) (bn.natAbs*ad.natAbs))∧(an<0→bn<0→cr=sI (bn.natAbs*ad.natAbs) (an.natAbs*bd.natAbs))):=HX.o
 have Du:=b6.frozen 0;have Dt:=b6.frozen 1;have AI:=(b7.far (p:=⟨g6,0,none⟩) yf (.int .u64 ((an.natAbs*bd.natAbs/18446744073709551616:Nat):Int))).far (p:=⟨g6,1,none⟩) yf (.int .u64 ((an.natAbs*bd.natAbs%18446744073709551616:Nat):Int));have zf:=AI.set_ 0 (.int .u64 ((bn.natAbs*ad.natAbs/18446744073709551616:Nat):Int));have TF:=AI.frozen 0;have TE:=zf.frozen 1;have LL:=AI.cell 0;have DY:=zf.cell 1;have Ev:=p6.cell 0
 have Eu:=p6.cell 1;have Et:=p7.cell 0;have Es:=p7.cell 1;have Uq:=p0.cell 0;have gT:=p1.cell 0;have TH:=b6.cell 0;have SG:=b6.cell 1;simp only[aw,av] at DY;simp only[aB,aD,aA] at Ev Eu Et Es Uq gT TH SG LL DY;generalize an.natAbs*bd.natAbs=m at*;generalize bn.natAbs*ad.natAbs=n at*;have Dd:=fun W=>Fi m n W;have H7:=fun W=>Fi n m W;unfold cF at*;generalize ((m/18446744073709551616:Nat):Int)=mh at*
 generalize ((m%18446744073709551616:Nat):Int)=ml at*;generalize ((n/18446744073709551616:Nat):Int)=nh at*;generalize ((n%18446744073709551616:Nat):Int)=nl at*;have P6:=zh p6;have P7:=zh p7;have B9:=zh B9;have H67:=zh yf;have Tg:Y0 (w.heap.size<g6∧w.heap.size<g7):=by unfold Y0;omega
 clear AI zf HX zl Bl Bn Bm yf xi Hs l6 l7 b6 b7 p6 p7 p0 p1 B8 Ts Tr hA hF aT HB D0 D1 u0 u1 u2 u3;by_cases c0:an<0
 case' neg=>
  have d0:decide (an<0)=false:=yC c0;by_cases cb:bn<0
  case' neg=>
   have db:decide (bn<0)=false:=yC cb;have cH:=zh (kl.o.2.2.1 (by omega) (by omega));obtain⟨x,rfl⟩:∃x,x=m:=⟨_,rfl⟩;obtain⟨y,rfl⟩:∃y,y=n:=⟨_,rfl⟩;have S6:=P6;have S7:=P7;have C9:=B9;clear P6 P7 B9 H67 Tg c0 cb kl
  case pos=>
   have db:decide (bn<0)=true:=yD cb;have CZ:=kl.o.2.1 (by omega) cb;subst CZ;clear kl;go_wp2_with fail;go_ret2;exact⟨rfl,B9.o⟩
 case' pos=>
  have d0:decide (an<0)=true:=yD c0;by_cases cb:bn<0
  case neg=>
   have db:decide (bn<0)=false:=yC cb;have CZ:=kl.o.1 c0 (by omega);subst CZ;clear kl;go_wp2_with fail;go_ret2;exact⟨rfl,B9.o⟩
  have db:decide (bn<0)=true:=yD cb;have cH:=zh (kl.o.2.2.2 c0 cb);clear c0 cb kl;go_upto_region 9 with fail;generalize (((w8.setCell ⟨g6,0,none⟩ (.int .u64 mh)).setCell ⟨g6,1,none⟩ (.int .u64 ml)).setCell ⟨g7,0,none⟩ (.int .u64 nh)).setCell ⟨g7,1,none⟩ (.int .u64 nl)=W9 at*;clear Du Dt TF TE TH SG LL DY Ev Eu Et Es Uq gT;have Ev:=P6.o.cell 0;have Eu:=P6.o.cell 1;have Et:=P7.o.cell 0;have Es:=P7.o.cell 1
  have Du:=P6.o.frozen 0;have Dt:=P6.o.frozen 1;have TF:=P7.o.frozen 0;have TE:=P7.o.frozen 1;simp only[aB,aD,aA] at Ev Eu Et Es;have R7:=H67.o;have S6:=zh ((((P6.o.set_ 0 (.int .u64 nh)).set_ 1 (.int .u64 nl)).far (p:=⟨g7,0,none⟩) (Ne.symm R7) (.int .u64 mh)).far (p:=⟨g7,1,none⟩) (Ne.symm R7) (.int .u64 ml));have S7:=zh ((((P7.o.far (p:=⟨g6,0,none⟩) R7 (.int .u64 nh)).far (p:=⟨g6,1,none⟩) R7 (.int .u64 nl)).set_ 0 (.int .u64 mh)).set_ 1 (.int .u64 ml))
  have C9:=zh ((((B9.o.setCell (p:=⟨g6,0,none⟩) (YG Tg.o.1) (.int .u64 nh)).setCell (p:=⟨g6,1,none⟩) (YG Tg.o.1) (.int .u64 nl)).setCell (p:=⟨g7,0,none⟩) (YG Tg.o.2) (.int .u64 mh)).setCell (p:=⟨g7,1,none⟩) (YG Tg.o.2) (.int .u64 ml));clear P6 P7 B9;go_upto_region 10 with fail;generalize (((W9.setCell ⟨g6,0,none⟩ (.int .u64 nh)).setCell ⟨g6,1,none⟩ (.int .u64 nl)).setCell ⟨g7,0,none⟩ (.int .u64 mh)).setCell ⟨g7,1,none⟩ (.int .u64 ml)=LQ at*
  clear Ev Eu Et Es Du Dt TF TE R7;have Ev:=S6.o.cell 0;have Eu:=S6.o.cell 1;have Et:=S7.o.cell 0;have Es:=S7.o.cell 1;simp only[aw,av,au,aB,aD,aA] at Ev Eu Et Es;obtain⟨y,rfl⟩:∃y,y=m:=⟨_,rfl⟩;obtain⟨x,rfl⟩:∃x,x=n:=⟨_,rfl⟩;have XC:=Dd;have Dd:=H7;have H7:=XC;clear XC
 all_goals
  by_cases c1:x<y
  ·rw[yD c1] at Dd;have CZ:=cH.o.trans (Az c1);subst CZ;clear c1 cH H7;go_wp2_with fail;refine (Dd _).mono ?_;rintro e w5 ⟨rfl,bf⟩;have hb:=C9.o.trans (bf.mono C9.o.size);go_wp2_with fail;go_ret2;exact⟨rfl,hb⟩
  rw[yC c1] at Dd;go_wp2_with fail;refine (Dd _).mono ?_;rintro e w5 ⟨rfl,bf⟩;have dJ:=zh (C9.o.trans (bf.mono C9.o.size));have P65:=S6.o.below bf S6.o.lt;have P75:=S7.o.below bf S7.o.lt;clear Ev Eu Et Es;have Ev:=P65.cell 0;have Eu:=P65.cell 1;have Et:=P75.cell 0;have Es:=P75.cell 1;simp only[aw,av,au,aB,aD,aA] at Ev Eu Et Es;clear P65 P75 bf S6 S7 C9 Dd;by_cases c2:y<x
  case' pos=>
   rw[yD c2] at H7;have CZ:=cH.o.trans (AA c2)
  case' neg=>
   rw[yC c2] at H7;have CZ:=cH.o.trans (AB (by omega))
  all_goals
   subst CZ;clear c1 c2 cH;go_wp2_with fail;refine (H7 _).mono ?_;rintro e w6 ⟨rfl,fk⟩;have hb:=dJ.o.trans (fk.mono dJ.o.size);go_wp2_with fail;go_ret2;exact⟨rfl,hb⟩
theorem qzu (a b:FrT) (w:World) (ha:aj a=true) (hb:aj b=true) (_:0≤b.num) :
  Calls Tryz.prog 31 #[a.val,b.val] w fun e w'=>e=.returned (.tuple #[.int .i64 (eI a b),.int .i64 0])∧Below w.heap.size w w':=Nu a b w ha hb
theorem Jg (p q:Rat):(p*q).num=p.num/((p.num.natAbs.gcd q.den:Nat):Int)*(q.num/((q.num.natAbs.gcd p.den:Nat):Int)):=by
 show (Rat.mul p q).num=_;delta Rat.mul
 simp only[Int.divExact_eq_ediv]
theorem Uw (p q:Rat):(p*q).den=p.den/(q.num.natAbs.gcd p.den)*(q.den/(p.num.natAbs.gcd q.den)):=by
 show (Rat.mul p q).den=_;delta Rat.mul
 simp only[Nat.divExact_eq_div]
theorem lJ {a:Int} {g:Nat} (hg:0<g) (h:g∣a.natAbs):(a/(g:Int)).natAbs=a.natAbs/g∧(a/(g:Int)<0↔a<0)∧(a/(g:Int)=0↔a=0):=by
 obtain⟨k,hk⟩:(g:Int)∣a:=Int.ofNat_dvd_left.2 h;subst hk;have hg':(g:Int)≠0:=by omega
 rw[Int.mul_ediv_cancel_left _ hg',Int.natAbs_mul,Int.natAbs_natCast,Nat.mul_div_cancel_left _ hg];refine⟨rfl,⟨fun h=>Int.mul_neg_of_pos_of_neg (by omega) h,fun h=>?_⟩,⟨fun h=>by rw[h,Int.mul_zero],fun h=>?_⟩⟩
 ·rcases (show k<0∨0≤k by omega) with h1|h1
  ·exact h1
  have:=Int.mul_nonneg (show (0:Int)≤g by omega) h1;omega
 rcases Int.mul_eq_zero.1 h with h|h
 ·omega
 exact h
theorem Uy (p q:Rat):(p*q).num.natAbs=p.num.natAbs/(p.num.natAbs.gcd q.den)*(q.num.natAbs/(q.num.natAbs.gcd p.den)):=by
 have h1:=lJ (a:=p.num) (g:=p.num.natAbs.gcd q.den) (Nat.gcd_pos_of_pos_right _ q.den_pos) (Nat.gcd_dvd_left _ _);have h2:=lJ (a:=q.num) (g:=q.num.natAbs.gcd p.den) (Nat.gcd_pos_of_pos_right _ p.den_pos) (Nat.gcd_dvd_left _ _);rw[Jg,Int.natAbs_mul,h1.1,h2.1]
theorem CG (p q:Rat):(p*q).num<0↔((p*q).num.natAbs≠0∧((p.num<0)≠(q.num<0))):=by
 have h1:=(lJ (a:=p.num) (g:=p.num.natAbs.gcd q.den) (Nat.gcd_pos_of_pos_right _ q.den_pos) (Nat.gcd_dvd_left _ _)).2.1;have h2:=(lJ (a:=q.num) (g:=q.num.natAbs.gcd p.den) (Nat.gcd_pos_of_pos_right _ p.den_pos) (Nat.gcd_dvd_left _ _)).2.1;rw[Jg];generalize p.num/((p.num.natAbs.gcd q.den:Nat):Int)=x at*;generalize q.num/((q.num.natAbs.gcd p.den:Nat):Int)=y at*;rw[Ne,Int.natAbs_eq_zero,←h1,←h2];rcases Int.lt_trichotomy x 0 with hx|hx|hx <;> rcases Int.lt_trichotomy y 0 with hy|hy|hy
 all_goals first
  | (subst hx;simp)
  | (subst hy;simp)
  | skip
 ·have:=Int.mul_pos_of_neg_of_neg hx hy;simp[hx,hy];omega
 ·have:=Int.mul_neg_of_neg_of_pos hx hy;simp[hx];omega
 ·have:=Int.mul_neg_of_pos_of_neg hx hy;simp[hy];omega
 have:=Int.mul_pos hx hy;simp;omega
def aU (a:FrT):Rat:=mkRat a.num a.den.natAbs
theorem jy {a:FrT} (h:aj a=true):(aU a).num=a.num∧(aU a).den=a.den.natAbs:=by
 unfold aj at h;simp only[Bool.and_eq_true,decide_eq_true_eq,beq_iff_eq] at h;obtain⟨⟨⟨⟨h1,_⟩,_⟩,_⟩,h5⟩:=h;have hd:a.den.natAbs≠0:=by omega
 have hg:a.num.natAbs.gcd a.den.natAbs=1:=by omega
 unfold aU;rw[mkRat,dif_neg hd,Rat.normalize_eq];simp only[hg];exact⟨by simp,by simp⟩
theorem rU {a:FrT} (h:aj a=true):((aU a).den:Int)=a.den:=by
 have:=(jy h).2;unfold aj at h;simp only[Bool.and_eq_true,decide_eq_true_eq] at h;omega
theorem Up (q:Rat):aU (dM q)=q:=by
 unfold aU dM;simp only[Int.natAbs_natCast];exact Rat.mkRat_self q
theorem qa {q:Rat} (h:aC q=true):aj (dM q)=true:=by
 unfold aC at h;simp only[Bool.and_eq_true,decide_eq_true_eq] at h;have h1:=q.den_pos;have h2:q.num.natAbs.gcd q.den=1:=q.reduced;unfold aj dM;simp only[Bool.and_eq_true,decide_eq_true_eq,beq_iff_eq,Int.natAbs_natCast,h2];omega
theorem LO (p q:Rat) (n:Int) (hn:n=p.num*((q.den/p.den.gcd q.den:Nat):Int)+q.num*((p.den/p.den.gcd q.den:Nat):Int)) :
  (p+q).num=n/((n.natAbs.gcd (p.den.gcd q.den):Nat):Int)∧(p+q).den=p.den/p.den.gcd q.den*(q.den/n.natAbs.gcd (p.den.gcd q.den)):=by
 subst hn;have key:p+q=Rat.add p q:=rfl;rw[key];delta Rat.add
 dsimp only
 by_cases h:p.den.gcd q.den=1
 ·rw[dif_pos h];simp[h]
 rw[dif_neg h,Rat.maybeNormalize_eq];refine⟨by dsimp only;exact Int.divExact_eq_ediv ..,?_⟩;dsimp only
 exact Nat.mul_div_assoc _ (Nat.dvd_trans (Nat.gcd_dvd_right _ _) (Nat.gcd_dvd_right _ _))
theorem KV (p:Rat) (h:p.num≠0):(p⁻¹).num=(if p.num<0 then -(p.den:Int) else (p.den:Int))∧(p⁻¹).den=p.num.natAbs:=by
 have key:p⁻¹=Rat.inv p:=rfl;rw[key];delta Rat.inv
 by_cases h1:p.num<0
 ·rw[dif_pos h1,if_pos h1];exact⟨rfl,rfl⟩
 rw[dif_neg h1,dif_pos (by omega),if_neg h1];exact⟨rfl,rfl⟩
def eK (neg:Bool) (n d:Nat):Value:=if n≤1152921504606846976∧d≤1152921504606846976 then .tuple #[.agg #[.int .i64 (if neg=true then -(n:Int) else (n:Int)),.int .i64 (d:Int)],.int .i64 0] else .tuple #[.agg #[.int .i64 0,.int .i64 0],.int .i64 5]
theorem sB {q:Rat} {n d:Nat} {neg:Bool} (hn:q.num.natAbs=n) (hd:q.den=d) (hs:q.num<0↔neg=true):bQ q=eK neg n d:=by
 unfold bQ eK;by_cases h:n≤1152921504606846976∧d≤1152921504606846976
 ·rw[if_pos h,if_pos (by unfold aC;rw[hn,hd];simpa using h),hd]
  have:q.num=if neg=true then -(n:Int) else (n:Int):=by
   by_cases hg:neg=true
   ·rw[if_pos hg];have:=hs.2 hg;omega
   rw[if_neg hg];have:¬q.num<0:=fun h=>hg (hs.1 h);omega
  rw[this]
 rw[if_neg h,if_neg];unfold aC;rw[hn,hd];simpa using h
theorem Dn {q:Rat} (h:¬(q.num.natAbs≤1152921504606846976∧q.den≤1152921504606846976)):bQ q=.tuple #[.agg #[.int .i64 0,.int .i64 0],.int .i64 5]:=by
 unfold bQ;rw[if_neg];unfold aC;simpa using h
theorem qx2 {a b:FrT} (ha:aj a=true) (hb:aj b=true) {n d:Nat} (hn:n=a.num.natAbs/(a.num.natAbs.gcd b.den.natAbs)*(b.num.natAbs/(b.num.natAbs.gcd a.den.natAbs))) (hd:d=a.den.natAbs/(b.num.natAbs.gcd a.den.natAbs)*(b.den.natAbs/(a.num.natAbs.gcd b.den.natAbs))) :
  (aU a*aU b).num.natAbs=n∧(aU a*aU b).den=d∧((aU a*aU b).num<0↔(decide (0<n)&&(decide (a.num<0) != decide (b.num<0)))=true):=by
 obtain⟨a1,a2⟩:=jy ha;obtain⟨b1,b2⟩:=jy hb;have h1:=Uy (aU a) (aU b);have h2:=Uw (aU a) (aU b);have h3:=CG (aU a) (aU b);rw[a1,a2,b1,b2] at h1 h2;rw[h1,a1,b1] at h3;refine⟨h1.trans hn.symm,h2.trans hd.symm,?_⟩;rw[h3,←hn];simp only[Bool.and_eq_true,decide_eq_true_eq,bne_iff_ne,ne_eq];refine and_congr (by omega) ?_;by_cases x:a.num<0 <;> by_cases y:b.num<0 <;> simp[x,y]
def CN (b:FrT):FrT:=if b.num<0 then ⟨-b.den,-b.num⟩ else ⟨b.den,b.num⟩
theorem QL {b:FrT} (hb:aj b=true) (h0:b.num≠0):aj (CN b)=true∧aU (CN b)=(aU b)⁻¹:=by
 obtain⟨b1,b2⟩:=jy hb;obtain⟨i1,i2⟩:=KV (aU b) (by rw[b1];exact h0);rw[b1,rU hb] at i1;rw[b1] at i2;have hd:=bB hb;have e:dM (aU b)⁻¹=CN b:=by
  unfold dM CN;rw[i1,i2];split
  ·congr 1;omega
  congr 1;omega
 have bM:aC (aU b)⁻¹=true:=by
  unfold aC;rw[i1,i2,Bool.and_eq_true,yP,yP];split <;> omega
 refine⟨by rw[←e];exact qa bM,by rw[←e,Up]⟩
theorem uO (neg:Bool) (n d:Nat) (w:World):Calls Tryz.prog 57 #[.bool neg,.int .u64 n,.int .u64 d] w fun e w'=>e=.returned (eK neg n d)∧Below w.heap.size w w':=by
 by_cases h1:n≤1152921504606846976;rotate_left
 ·have d1:decide ((1152921504606846976:Int)<(n:Int))=true:=yD (by omega);have d2:decide (1152921504606846976<n)=true:=yD (by omega);have HV:Y0 (eK neg n d=.tuple #[.agg #[.int .i64 0,.int .i64 0],.int .i64 5]):=by unfold Y0 eK;rw[if_neg (by omega)]
  clear h1;go_enter Tryz.func57,Tryz.ntmps57;go_wp2_with fail;obtain⟨z0,z1⟩:=(Blk.new w 23 #[.int .i64 0,.int .i64 0]).c2;refine YF (v:=.tuple #[.agg #[.int .i64 0,.int .i64 0],.int .i64 5]) (by simp[results,Tryz.results57,go_sem,z0,z1]) rfl ?_;exact⟨by rw[HV.o],(yB _ _).alloc (yA _) _⟩
 by_cases h2:d≤1152921504606846976;rotate_left
 ·have d1:decide ((1152921504606846976:Int)<(n:Int))=false:=yC (by omega);have d2:decide (1152921504606846976<n)=false:=yC (by omega);have d3:decide ((1152921504606846976:Int)<(d:Int))=true:=yD (by omega);have d4:decide (1152921504606846976<d)=true:=yD (by omega);have HV:Y0 (eK neg n d=.tuple #[.agg #[.int .i64 0,.int .i64 0],.int .i64 5]):=by unfold Y0 eK;rw[if_neg (by omega)]
  clear h1 h2;go_enter Tryz.func57,Tryz.ntmps57;go_wp2_with fail;obtain⟨z0,z1⟩:=(Blk.new w 23 #[.int .i64 0,.int .i64 0]).c2;refine YF (v:=.tuple #[.agg #[.int .i64 0,.int .i64 0],.int .i64 5]) (by simp[results,Tryz.results57,go_sem,z0,z1]) rfl ?_;exact⟨by rw[HV.o],(yB _ _).alloc (yA _) _⟩
 have d1:decide ((1152921504606846976:Int)<(n:Int))=false:=yC (by omega);have d2:decide (1152921504606846976<n)=false:=yC (by omega);have d3:decide ((1152921504606846976:Int)<(d:Int))=false:=yC (by omega);have d4:decide (1152921504606846976<d)=false:=yC (by omega);have w1:IntKind.i64.wrap (n:Int)=(n:Int):=yF _ (by omega);have w2:IntKind.i64.wrap (d:Int)=(d:Int):=yF _ (by omega);have w3:IntKind.i64.wrap (-(n:Int))=-(n:Int):=yF _ (by omega)
 have HV:Y0 (eK neg n d=.tuple #[.agg #[.int .i64 (if neg=true then -(n:Int) else (n:Int)),.int .i64 (d:Int)],.int .i64 0]):=by unfold Y0 eK;rw[if_pos ⟨h1,h2⟩]
 clear h1 h2;cases neg
 case true=>
  go_enter Tryz.func57,Tryz.ntmps57;go_wp2_with fail;obtain⟨z0,z1⟩:=(Blk.new w 23 #[.int .i64 (-(n:Int)),.int .i64 (d:Int)]).c2;refine YF (v:=.tuple #[.agg #[.int .i64 (-(n:Int)),.int .i64 (d:Int)],.int .i64 0]) (by simp[results,Tryz.results57,go_sem,z0,z1]) rfl ?_;exact⟨by rw[HV.o];rfl,(yB _ _).alloc (yA _) _⟩
 go_enter Tryz.func57,Tryz.ntmps57;go_wp2_with fail;obtain⟨z0,z1⟩:=(Blk.new w 23 #[.int .i64 (n:Int),.int .i64 (d:Int)]).c2;refine YF (v:=.tuple #[.agg #[.int .i64 (n:Int),.int .i64 (d:Int)],.int .i64 0]) (by simp[results,Tryz.results57,go_sem,z0,z1]) rfl ?_;exact⟨by rw[HV.o];rfl,(yB _ _).alloc (yA _) _⟩
theorem GB {q:Rat} {N D:Nat} {neg:Bool} (hD:0<D) (hq:q=mkRat (if neg=true then -(N:Int) else (N:Int)) D):bQ q=eK neg (N/N.gcd D) (D/N.gcd D):=by
 by_cases h0:N=0
 ·subst h0;have e:(if neg=true then -((0:Nat):Int) else ((0:Nat):Int))=0:=by cases neg <;> rfl
  rw[e,Rat.zero_mkRat] at hq;rw[hq,Nat.gcd_zero_left,Nat.zero_div,Nat.div_self hD];cases neg <;> rfl
 have s9:D≠0:=by omega
 have hx:(if neg=true then -(N:Int) else (N:Int)).natAbs=N:=by cases neg <;> simp
 have hg:=lJ (a:=if neg=true then -(N:Int) else (N:Int)) (g:=N.gcd D) (Nat.gcd_pos_of_pos_right _ hD) (by rw[hx];exact Nat.gcd_dvd_left _ _);rw[mkRat,dif_neg s9,Rat.normalize_eq] at hq;simp only[hx] at hq;rw[hx] at hg;refine sB ?_ ?_ ?_
 ·rw[hq];exact hg.1
 ·rw[hq]
 rw[hq,hg.2.1];cases neg
 case true=>first|(simp;done)|(simp;omega)
 first|(simp;done)|(simp;omega)
theorem YV {a b:Rat} (h:a<b):a≤b:=by
 rcases Rat.le_total (a:=a) (b:=b) with h1|h1
 ·exact h1
 exact absurd h (Rat.not_lt.2 h1)
theorem qj3 {a b:FrT} (ha:aj a=true) (hb:aj b=true):(eI a b=-1↔aU a<aU b)∧(eI a b=1↔aU b<aU a):=by
 rw[Rat.lt_iff,Rat.lt_iff,(jy ha).1,(jy hb).1,rU ha,rU hb];unfold eI;refine⟨?_,?_⟩
 ·split
  ·rename_i h;exact⟨fun _=>h,fun _=>rfl⟩
  rename_i h;exact⟨fun e=>by split at e <;> omega,fun e=>absurd e h⟩
 split
 ·rename_i h;exact⟨fun e=>by omega,fun e=>by omega⟩
 split
 ·rename_i h;exact⟨fun _=>h,fun _=>rfl⟩
 rename_i h;exact⟨fun e=>by omega,fun e=>absurd e h⟩
theorem JH {a b:FrT}:eI a b=-1∨eI a b=0∨eI a b=1:=by
 unfold eI;split
 ·exact .inl rfl
 split
 ·exact .inr (.inr rfl)
 exact .inr (.inl rfl)
def fr0:FrT:=⟨0,1⟩
def iG (l:List FrT) (i:Nat):FrT:=l.getD i fr0
theorem jc {l:List FrT} {i:Nat} (h:i<l.length):iG l i=l[i]:=by unfold iG;rw[List.getD_eq_getElem?_getD,List.getElem?_eq_getElem h];rfl
def bz (l:List FrT):Nat→Nat
 | 0=>0
 | k+1=>if eI (iG l k) (iG l (bz l k))=1 then k else bz l k
theorem jK {l:List FrT} (hl:0 < l.length):∀k,k ≤ l.length→bz l k < l.length
 | 0,_=>hl
 | k+1,hk=>by have:=jK hl k (by omega);unfold bz;split <;> omega
theorem vM {l:List FrT} (hg:∀f∈l,aj f=true) (hl:0 < l.length):∀k,k ≤ l.length→∀j,j < k→aU (iG l j) ≤ aU (iG l (bz l k))
 | 0,_,_,h=>by omega
 | k+1,hk,j,hj=>by
  have ih:=vM hg hl k (by omega);have hb:=jK hl k (by omega);have g1:aj (iG l k)=true:=by rw[jc (by omega)];exact hg _ (yV _)
  have g2:aj (iG l (bz l k))=true:=by rw[jc hb];exact hg _ (yV _)
  have hc:=(qj3 g1 g2).2;unfold bz;by_cases h1:eI (iG l k) (iG l (bz l k))=1
  ·rw[if_pos h1];have h2:=hc.1 h1;rcases Nat.lt_or_ge j k with h3|h3
   ·exact Rat.le_trans (ih j h3) (YV h2)
   obtain rfl:j=k:=by omega
   exact Rat.le_refl
  rw[if_neg h1];rcases Nat.lt_or_ge j k with h3|h3
  ·exact ih j h3
  obtain rfl:j=k:=by omega
  exact Rat.not_lt.1 fun h=>h1 (hc.2 h)
def gC (s t:Bool) (x y:Nat):Nat:=if s=t then x+y else if x<y then y-x else x-y
def fN (s t:Bool) (x y:Nat):Bool:=if s=t then s else if x<y then !s else s
theorem SN {a b:Int} {u v:Nat} :
  (a*u+b*v).natAbs=gC (decide (a<0)) (decide (b<0)) (a.natAbs*u) (b.natAbs*v) ∧
   ((a*u+b*v).natAbs≠0→(a*u+b*v<0↔fN (decide (a<0)) (decide (b<0)) (a.natAbs*u) (b.natAbs*v)=true)):=by
 have ha:a*u=if a<0 then -((a.natAbs*u:Nat):Int) else ((a.natAbs*u:Nat):Int):=by
  rw[Int.natCast_mul];split
  ·rw[show a=-(a.natAbs:Int) by omega,Int.neg_mul];simp
  rw[show a=(a.natAbs:Int) by omega];simp
 have hb:b*v=if b<0 then -((b.natAbs*v:Nat):Int) else ((b.natAbs*v:Nat):Int):=by
  rw[Int.natCast_mul];split
  ·rw[show b=-(b.natAbs:Int) by omega,Int.neg_mul];simp
  rw[show b=(b.natAbs:Int) by omega];simp
 rw[ha,hb];generalize a.natAbs*u=x;generalize b.natAbs*v=y;unfold gC fN;by_cases h1:a<0 <;> by_cases h2:b<0 <;> by_cases h3:x<y <;> simp[h1,h2,h3] <;> omega
theorem qzj {a b:FrT} (ha:aj a=true) (hb:aj b=true) {g x y n m:Nat} (hg:g=a.den.natAbs.gcd b.den.natAbs) (hx:x=a.num.natAbs * (b.den.natAbs/g)) (hy:y=b.num.natAbs * (a.den.natAbs/g))
  (hn:n=gC (decide (a.num<0)) (decide (b.num<0)) x y) (hm:m=g.gcd (n%g)) :
  (n=0→aU a+aU b=0)∧(n≠0→(aU a+aU b).num.natAbs=n/m∧(aU a+aU b).den=a.den.natAbs/g*(b.den.natAbs/m)∧((aU a+aU b).num<0↔fN (decide (a.num<0)) (decide (b.num<0)) x y=true)):=by
 obtain⟨a1,a2⟩:=jy ha;obtain⟨b1,b2⟩:=jy hb;obtain⟨p1,p2⟩:=LO (aU a) (aU b) _ rfl;rw[a1,a2,b1,b2,←hg] at p1 p2;obtain⟨s1,s2⟩:=@SN a.num b.num (b.den.natAbs/g) (a.den.natAbs/g);rw[←hx,←hy,←hn] at s1;rw[←hx,←hy] at s2;rw[s1] at p1 p2 s2;have hgm:n.gcd g=m:=by rw[hm,Nat.gcd_comm,Nat.gcd_rec,Nat.gcd_comm]
 rw[hgm] at p1 p2;have pc:0<g:=by rw[hg];exact Nat.gcd_pos_of_pos_left _ (by have:=(bB ha).1;omega)
 have Jt:0<m:=by rw[←hgm];exact Nat.gcd_pos_of_pos_right _ pc
 have Le:m∣n:=by rw[←hgm];exact Nat.gcd_dvd_left _ _
 obtain⟨e1,e2,-⟩:=lJ (a:=a.num*((b.den.natAbs/g:Nat):Int)+b.num*((a.den.natAbs/g:Nat):Int)) (g:=m) Jt (by rw[s1];exact Le);rw[s1] at e1;refine⟨fun h0=>?_,fun h0=>⟨by rw[p1,e1],p2,?_⟩⟩
 ·have:(aU a+aU b).num=0:=by
   rw[p1]
   have:a.num*((b.den.natAbs/g:Nat):Int)+b.num*((a.den.natAbs/g:Nat):Int)=0:=by omega
   rw[this,Int.zero_ediv]
  exact Rat.num_eq_zero.1 this
 rw[p1,e2];exact s2 h0
theorem qzk {a b:FrT} (ha:aj a=true) (hb:aj b=true) {g:Nat} (hg:g=a.den.natAbs.gcd b.den.natAbs):0<g∧g≤1152921504606846976∧a.den.natAbs/g≤1152921504606846976∧b.den.natAbs/g≤1152921504606846976∧0<b.den.natAbs/g:=by
 have h1:=bB ha;have h2:=bB hb;have pc:0<g:=by rw[hg];exact Nat.gcd_pos_of_pos_left _ (by omega)
 have hgl:g≤a.den.natAbs:=by rw[hg];exact Nat.gcd_le_left _ (by omega)
 have wR:g≤b.den.natAbs:=by rw[hg];exact Nat.gcd_le_right _ (by omega)
 have e1:=YK a.den.natAbs g;have e2:=YK b.den.natAbs g;exact⟨pc,by omega,by omega,by omega,Nat.div_pos wR pc⟩
def cB (m:Int) (f a:FrT):Bool:=aC (aU a*aU f)&&decide (0<eI (dM (aU a*aU f)) ⟨m,1⟩)
theorem nR {m:Int} (h1 : -1152921504606846976≤m) (h2:m≤1152921504606846976):aj ⟨m,1⟩=true:=by
 unfold aj;simp only[Bool.and_eq_true,decide_eq_true_eq,beq_iff_eq];refine⟨⟨⟨⟨by omega,by omega⟩,h1⟩,h2⟩,?_⟩;show ((Nat.gcd m.natAbs 1:Nat):Int)=1;rw[Nat.gcd_one_right];rfl
section
variable {l:List FrT} {m:Int} {f:FrT} (hg:∀a∈l,aj a=true) (hl:0<l.length) (hm:1≤m∧m≤67108864) (hf:aj f=true) (hf0:0≤f.num) (hk:∀a∈l,aC (aU a*aU f)=true)
include hg hl in
theorem Rl:iG l (bz l l.length)∈l∧∀a∈l,aU a≤aU (iG l (bz l l.length)):=by
 have h1:=jK hl l.length (yA _);refine⟨by rw[jc h1];exact yV _,fun a ha=>?_⟩;obtain⟨j,hj,rfl⟩:=List.getElem_of_mem ha
 have:=vM hg hl l.length (yA _) j hj;rwa [jc hj] at this
include hg hl hm hf hf0 hk
end
