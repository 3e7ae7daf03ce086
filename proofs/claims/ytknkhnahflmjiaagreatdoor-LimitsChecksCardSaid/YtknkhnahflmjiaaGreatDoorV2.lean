/- Lemmas. -/
import Derived.Deep.DeepCutAuto
import Derived.Lib.ItoaNum
import Derived.Shelf.Bits.Mul64
import Derived.Shelf.Small.Bits
import Derived.Shelf.Spec.BitsCarry
import Derived.Test.YtknkhnahflmjiaaGreatDoorT1
namespace Go.Proofs.YtknkhnahflmjiaaGreatDoor
set_option maxRecDepth 100000
set_option maxHeartbeats 40000000
open Go.RowKit Go.Shelf
def U1:Ren:=⟨fun|129=>189|134=>142|n=>n,fun|3=>3|4=>4|5=>5|9=>9|46=>168|53=>85|n=>n,fun n=>n⟩
theorem QA:Lays.n134 Tryz.prog U1:={
 mixed:=by kernel_rfl
 f129:=Tryz.func189.trans (congrArg some (by kernel_rfl))
 f134:=Tryz.func142.trans (congrArg some (by kernel_rfl))
 t3:=Tryz.underlying3
 a3:=Tryz.isAgg3
 z3:=Tryz.sizeOf3
 v3:=Tryz.zeroValue3
 t4:=Tryz.underlying4
 a4:=Tryz.isAgg4
 z4:=Tryz.sizeOf4
 v4:=Tryz.zeroValue4
 t5:=Tryz.underlying5
 a5:=Tryz.isAgg5
 z5:=Tryz.sizeOf5
 v5:=Tryz.zeroValue5
 t9:=Tryz.underlying9
 a9:=Tryz.isAgg9
 z9:=Tryz.sizeOf9
 v9:=Tryz.zeroValue9
 t46:=Tryz.underlying168
 a46:=Tryz.isAgg168
 z46:=Tryz.sizeOf168
 v46:=Tryz.zeroValue168
 t53:=Tryz.underlying85
 a53:=Tryz.isAgg85
 z53:=Tryz.sizeOf85
 v53:=Tryz.zeroValue85 }
theorem S5 (x:Nat) (w:World) (h1:x≤18446744073709551615) :
  Calls Tryz.prog 142 #[.int .u64 x] w fun e w'=>e=.returned (.int .i64 (64-(Lib.bitLen x:Int)))∧w'=w :=
 Any.bits_LeadingZeros64 QA x w (by omega) (by omega)
def SO:Ren:=⟨fun|25=>100|n=>n,fun|22=>85|n=>n,fun n=>n⟩
theorem LP:Lays7.n25 Tryz.prog SO:={
 mixed:=by kernel_rfl
 f25:=Tryz.func100.trans (congrArg some (by kernel_rfl))
 t22:=Tryz.underlying85
 a22:=Tryz.isAgg85
 z22:=Tryz.sizeOf85
 v22:=Tryz.zeroValue85
 i22:=by kernel_rfl }
theorem za (x y c:Nat) (hc:c≤1) (w:World) :
  (callFunc 100 #[.int .u64 x,.int .u64 y,.int .u64 c]).run Tryz.prog w =
   .ok (.value (.tuple #[.int .u64 (((x+y+c)%18446744073709551616:Nat):Int),.int .u64 (((x+y+c)/18446744073709551616:Nat):Int)])) w :=
 Any7.bits_Add64 LP x y c hc w
def MX:Ren:=⟨fun|26=>101|n=>n,fun|22=>85|n=>n,fun n=>n⟩
theorem Kq:Lays7.n26 Tryz.prog MX:={
 mixed:=by kernel_rfl
 f26:=Tryz.func101.trans (congrArg some (by kernel_rfl))
 t22:=Tryz.underlying85
 a22:=Tryz.isAgg85
 z22:=Tryz.sizeOf85
 v22:=Tryz.zeroValue85
 i22:=by kernel_rfl }
theorem yz (x y b:Nat) (hb:b≤1) (w:World) :
  (callFunc 101 #[.int .u64 x,.int .u64 y,.int .u64 b]).run Tryz.prog w =
   .ok (.value (.tuple #[.int .u64 (((x+18446744073709551616-y-b)%18446744073709551616:Nat):Int),.int .u64 ((if x<y+b then 1 else 0:Nat):Int)])) w :=
 Any7.bits_Sub64 Kq x y b hb w
theorem xE {B u d y1 y0 q r:Nat} (hu:r+q*y1=u):B*r+d<q*y0↔u*B+d<q*(y1*B+y0):=by
 subst hu;rw[Nat.add_mul,yX,←yY,Nat.mul_comm B r];omega
theorem BE {B u d y1 y0:Nat} (h1:0<y1) (hd:d<B):u*B+d<(u/y1+1)*(y1*B+y0):=by
 have h2:u+1≤(u/y1+1)*y1:=by
  have:=YI u y1
  have:=YJ u h1;rw[Nat.add_mul,Nat.mul_comm (u/y1) y1];omega
 have h3:=Nat.mul_le_mul_right B h2;have h4:(u/y1+1)*(y1*B+y0)=(u/y1+1)*y1*B+(u/y1+1)*y0:=by rw[yX,yY]
 have h5:(u+1)*B=u*B+B:=by rw[Nat.add_mul,Nat.one_mul]
 omega
theorem ML {B u y1 y0:Nat} (h1:0<y1) (hn:B≤2*y1) (h0:y0<B) (hu:u<y1*B+y0):u/y1≤B+1:=by
 have:u<(B+2)*y1:=by
  have:(B+2)*y1=y1*B+2*y1:=by rw[Nat.add_mul,Nat.mul_comm B y1]
  omega
 have:=(Nat.div_lt_iff_lt_mul h1).2 this;omega
theorem ES {B u y1 y0 q r:Nat} (h0:y0<B) (hu:r+q*y1=u) (aI:u<y1*B+y0) (hq:B≤q):r<B:=by
 have:=Nat.mul_le_mul_right y1 hq;rw[Nat.mul_comm B y1] at this;omega
theorem BF {B u d y1 y0 q r:Nat} (hu:r+q*y1=u) (hup:u*B+d<(q+1)*(y1*B+y0)) (hy:0<y1*B+y0) (tE:¬B*r+d<q*y0):q=(u*B+d)/(y1*B+y0):=by
 rw[xE hu] at tE;have h1:=(Nat.div_lt_iff_lt_mul hy).2 hup;have h2:=(Nat.le_div_iff_mul_le hy).2 (Nat.le_of_not_lt tE);omega
theorem ER {B d y0 q r:Nat} (h0:y0<B) (hq:q<B) (hr:B≤r):¬B*r+d<q*y0:=by
 have h1:=Nat.mul_le_mul_left B hr;have h2:q*y0≤B*B:=Nat.mul_le_mul (YG hq) (YG h0);omega
theorem uH {B T u0 y:Nat}:(T*B+u0)/y=T/y*B+(T%y*B+u0)/y∧(T*B+u0)%y=(T%y*B+u0)%y:=by
 have h:=YI T y;have e:T*B+u0=T%y*B+u0+y*(T/y*B):=by
  have:T*B=(y*(T/y)+T%y)*B:=by rw[h]
  rw[Nat.add_mul,yY] at this;omega
 rcases Nat.eq_zero_or_pos y with h0|h0
 ·subst h0;simp
 rw[e,Nat.add_mul_div_left _ _ h0,Nat.add_mul_mod_self_left];exact⟨by omega,rfl⟩
theorem Kw {a b k:Nat} (hk:0<k):a*k/(b*k)=a/b∧a*k%(b*k)/k=a%b:=by
 rw[Nat.mul_div_mul_right _ _ hk,Nat.mul_mod_mul_right,Nat.mul_div_cancel _ hk];exact⟨rfl,rfl⟩
theorem BJ {hi lo s:Nat} (hs:s≤64):(hi*2^64+lo)*2^s=(hi*2^s+lo/2^(64-s))*2^64+lo*2^s%2^64:=by
 have h1:(2:Nat)^64=2^(64-s)*2^s:=by rw[←Nat.pow_add];congr 1;omega
 have h2:lo*2^s/2^64=lo/2^(64-s):=by rw[h1,Nat.mul_div_mul_right _ _ (Nat.two_pow_pos s)]
 have h3:=YI (lo*2^s) (2^64);rw[h2] at h3;generalize lo*2^s%2^64=z at*;rw[Nat.add_mul,←h3,Nat.add_mul,Nat.mul_comm (2^64) (lo/_),yY hi,Nat.mul_comm (2^64) (2^s),←yY];omega
structure TrialQ (B u d y1 y0 q r:Nat):Prop where
 sum:r+q*y1=u
 up:u*B+d<(q+1)*(y1*B+y0)
def rN (B d y0 q r:Nat):Prop:=B≤q∨B*r+d<q*y0
structure DigitH (B u d y1 y0:Nat):Prop where
 pos:0<y1
 y1b:y1<B
 nrm:B≤2*y1
 low:y0<B
 dig:d<B
 lt:u<y1*B+y0
section
variable {B u d y1 y0 q r:Nat}
theorem qy (h:DigitH B u d y1 y0):TrialQ B u d y1 y0 (u/y1) (u%y1)∧u%y1<B∧u/y1≤B+1 :=
 ⟨⟨by rw[Nat.mul_comm];exact Nat.mod_add_div _ _,BE h.pos h.dig⟩,Nat.lt_trans (YJ _ h.pos) h.y1b,ML h.pos h.nrm h.low h.lt⟩
theorem p8 (h:DigitH B u d y1 y0) (ht:rN B d y0 q r):1≤q:=by
 have:=h.y1b;rcases Nat.eq_zero_or_pos q with h0|h0
 ·subst h0;unfold rN at ht;rw[Nat.zero_mul] at ht;omega
 exact h0
theorem sT (h:DigitH B u d y1 y0) (hT:TrialQ B u d y1 y0 q r) (ht:rN B d y0 q r):TrialQ B u d y1 y0 (q-1) (r+y1):=by
 have hq:=p8 h ht;obtain⟨k,rfl⟩:∃k,q=k+1:=⟨q-1,by omega⟩;have e:k+1-1=k:=rfl;rw[e];refine⟨by have:=hT.sum;rw[Nat.add_mul,Nat.one_mul] at this;omega,?_⟩;rcases ht with ht|ht
 ·have h1:=Nat.mul_le_mul_right (y1*B+y0) ht;have h2:(u+1)*B≤(y1*B+y0)*B:=Nat.mul_le_mul_right B h.lt;have h3:(u+1)*B=u*B+B:=by rw[Nat.add_mul,Nat.one_mul]
  have h4:=Nat.mul_comm B (y1*B+y0)
  have:=h.dig;omega
 exact (xE hT.sum).1 ht
theorem lX (h:DigitH B u d y1 y0) (hT:TrialQ B u d y1 y0 q r) (hr:¬rN B d y0 q r∨B≤r):q=(u*B+d)/(y1*B+y0)∧q<B:=by
 have hy:0<y1*B+y0:=by have:=h.lt;omega
 have hqB:q<B:=by
  rcases Nat.lt_or_ge q B with h1|h1
  ·exact h1
  have h2:=ES h.low hT.sum h.lt h1;rcases hr with h3|h3
  ·exact absurd (Or.inl h1) h3
  omega
 refine⟨BF hT.sum hT.up hy ?_,hqB⟩;rcases hr with h3|h3
 ·exact fun h4=>h3 (.inr h4)
 exact ER h.low hqB h3
end
theorem Vl {hi lo y s:Nat} (hs:s≤63) (qS:lo<18446744073709551616) (aI:hi<y) :
  (hi*2^s+lo/2^(64-s))<y*2^s∧lo*2^s%18446744073709551616/4294967296<4294967296∧lo*2^s%18446744073709551616%4294967296<4294967296:=by
 have h1:(18446744073709551616:Nat)=2^(64-s)*2^s:=by rw[←Nat.pow_add,show 64-s+s=64 by omega]
 have h2:lo/2^(64-s)<2^s:=(Nat.div_lt_iff_lt_mul (Nat.two_pow_pos _)).2 (by rw[Nat.mul_comm,←h1];exact qS);have h3:=Nat.mul_le_mul_right (2^s) aI;have h4:(hi+1)*2^s=hi*2^s+2^s:=by rw[Nat.add_mul,Nat.one_mul]
 have h5:=YJ (lo*2^s) (show 0<18446744073709551616 by decide);have h6:hi.succ*2^s=(hi+1)*2^s:=rfl;refine⟨by omega,by omega,by omega⟩
theorem Vm {hi lo y s q1 q0 u1:Nat} (hs:s ≤ 63)
  (h1:q1=((hi*2^s+lo/2^(64-s))*4294967296+lo*2^s%18446744073709551616/4294967296)/(y*2^s))
  (hu:u1=((hi*2^s+lo/2^(64-s))*4294967296+lo*2^s%18446744073709551616/4294967296)%(y*2^s))
  (h0:q0=(u1*4294967296+lo*2^s%18446744073709551616%4294967296)/(y*2^s)) :
  q1*4294967296+q0=(hi*18446744073709551616+lo)/y∧(u1*4294967296+lo*2^s%18446744073709551616%4294967296)%(y*2^s)/2^s=(hi*18446744073709551616+lo)%y:=by
 have hp:=@BJ hi lo s (by omega);rw[show (2:Nat)^64=18446744073709551616 by decide] at hp;have hd:=@Kw (hi*18446744073709551616+lo) y (2^s) (Nat.two_pow_pos s);rw[hp] at hd;generalize hi*2^s+lo/2^(64-s)=T at*;generalize lo*2^s%18446744073709551616=L at*;generalize y*2^s=Y at*;have ht:=@uH 4294967296 (T*4294967296+L/4294967296) (L%4294967296) Y;have e:(T*4294967296+L/4294967296)*4294967296+L%4294967296=T*18446744073709551616+L:=by omega
 rw[e,←h1,←hu,←h0] at ht;rw[←ht.2,←ht.1];exact hd
open Go.RowKit Go.Shelf
theorem U0 {y:Nat} (h0:0<y) (hy:y<18446744073709551616):∃s:Nat,(64-(Lib.bitLen y:Int))=(s:Int)∧s≤63∧y*2^s<18446744073709551616∧9223372036854775808≤y*2^s:=by
 have iD:=Lib.bitLen_le y 64 (yA _) hy;obtain⟨h1,h2,h3⟩:=Lib.bitLenAux_bounds 64 y hy (by omega);have e:Lib.bitLenAux 64 y=Lib.bitLen y:=rfl;rw[e] at h1 h2 h3;generalize Lib.bitLen y=b at*;refine⟨64-b,by omega,by omega,?_,?_⟩
 ·have:=Nat.mul_lt_mul_of_pos_right h3 (Nat.two_pow_pos (64-b));rw[←Nat.pow_add,show b+(64-b)=64 by omega] at this;exact this
 have:=Nat.mul_le_mul_right (2^(64-b)) h2;rw[←Nat.pow_add,show b-1+(64-b)=63 by omega] at this;exact this
theorem Iu (lo y:Nat) (w:World) (aI:0<y) (qS:lo<18446744073709551616) (hy:y<18446744073709551616) :
  Calls Tryz.prog 102 #[.int .u64 (0:Nat),.int .u64 lo,.int .u64 y] w fun e w'=>e=.returned (.tuple #[.int .u64 ((lo/y:Nat):Int),.int .u64 ((lo%y:Nat):Int)])∧∃n,w.drewN n=w':=by
 have e1:((y:Int)==0)=false:=zb (by omega);have e2:decide ((y:Int)≤((0:Nat):Int))=false:=yC (by omega);have v1:IntKind.u64.wrap ((lo:Int)/(y:Int))=((lo/y:Nat):Int):=by
  rw[←Int.natCast_ediv];exact Mul64.wrapN _ (Nat.lt_of_le_of_lt (YK lo y) qS)
 have v2:(lo:Int)%(y:Int)=((lo%y:Nat):Int):=(Int.natCast_emod lo y).symm;go_enter Tryz.func102,Tryz.ntmps102;go_wp2_with fail;go_quiet (fail);go_wp2_with fail;go_ret2;exact⟨rfl,_,rfl⟩
theorem IH {u d Y q:Nat} (hq:q=(u*4294967296+d)/Y) (hY:0<Y∧Y<18446744073709551616∧d<4294967296) :
  IntKind.u64.wrap ((u:Int)*4294967296)=((u*4294967296%18446744073709551616:Nat):Int) ∧
  IntKind.u64.wrap (((u*4294967296%18446744073709551616:Nat):Int)+(d:Int))=(((u*4294967296+d)%18446744073709551616:Nat):Int) ∧
  IntKind.u64.wrap ((q:Int)*(Y:Int))=((q*Y%18446744073709551616:Nat):Int) ∧
  IntKind.u64.wrap ((((u*4294967296+d)%18446744073709551616:Nat):Int)-((q*Y%18446744073709551616:Nat):Int))=(((u*4294967296+d)%Y:Nat):Int):=by
 obtain⟨h0,h1,h2⟩:=hY;have e:=Nat.div_add_mod' (u*4294967296+d) Y;have f:=YJ (u*4294967296+d) h0;rw[←hq] at e;refine⟨?_,?_,?_,?_⟩
 ·rw[show (u:Int)*(4294967296:Int)=((u*4294967296:Nat):Int) by omega];exact Mul64.wrapM _
 ·rw[Mul64.addN,Mul64.wrapM];omega
 ·rw[Mul64.mulN];exact Mul64.wrapM _
 generalize q*Y=P at*;generalize (u*4294967296+d)%Y=R at*;generalize u*4294967296+d=S at*;rw[IntKind.wrap_u64];omega
theorem tS {q y0 d r:Nat} (hq:q<4294967296) (hy:y0<4294967296) (hr:r<4294967296) (hd:d<4294967296) :
  ∃A1 A2:Nat,(A1<A2↔4294967296*r+d<q*y0)∧IntKind.u64.wrap ((q:Int)*(y0:Int))=(A2:Int)∧∃A0:Nat,IntKind.u64.wrap (4294967296*(r:Int))=(A0:Int)∧IntKind.u64.wrap ((A0:Int)+(d:Int))=(A1:Int):=by
 have hqy:q*y0<18446744073709551616:=by
  have h1:=Nat.mul_le_mul (show q≤4294967295 by omega) (show y0≤4294967295 by omega);omega
 refine⟨4294967296*r+d,q*y0,Iff.rfl,?_,4294967296*r,?_,?_⟩
 ·rw[Mul64.mulN];exact Mul64.wrapN _ hqy
 ·rw[show (4294967296:Int)*(r:Int)=((4294967296*r:Nat):Int) by omega];exact Mul64.wrapN _ (by omega)
 rw[Mul64.addN];exact Mul64.wrapN _ (by omega)
theorem Qt {a b s:Nat} (ha:(a+1)*2^s≤18446744073709551616) (hb:b<2^s):bits .or .u64 ((a*2^s:Nat):Int) (b:Int)=((a*2^s+b:Nat):Int):=by
 have h1:a*2^s+b=a*2^s ||| b:=by
  have:=Nat.shiftLeft_add_eq_or_of_lt hb a;rw[Nat.shiftLeft_eq] at this;exact this
 rw[Nat.add_mul,Nat.one_mul] at ha;have key:(BitVec.ofInt 64 ((a*2^s:Nat):Int) ||| BitVec.ofInt 64 (b:Int)).toNat=a*2^s+b:=by
  rw[BitVec.toNat_or,BitVec.toNat_ofInt,BitVec.toNat_ofInt,h1];generalize a*2^s=x at*;have e1:((x:Int)%((2^64:Nat):Int)).toNat=x:=by omega
  have e2:((b:Int)%((2^64:Nat):Int)).toNat=b:=by omega
  rw[e1,e2]
 show (((BitVec.ofInt 64 ((a*2^s:Nat):Int) ||| BitVec.ofInt 64 (b:Int)).toNat:Nat):Int)%18446744073709551616=_;rw[key];omega
theorem Is (hi lo y:Nat) (w:World) (h0:0<hi) (aI:hi<y) (qS:lo<18446744073709551616) (hy:y<18446744073709551616) :
  Calls Tryz.prog 102 #[.int .u64 hi,.int .u64 lo,.int .u64 y] w fun e w'=>e=.returned (.tuple #[.int .u64 (((hi*18446744073709551616+lo)/y:Nat):Int),.int .u64 (((hi*18446744073709551616+lo)%y:Nat):Int)])∧w=w':=by
 have e1:((y:Int)==0)=false:=zb (by omega);have e2:decide ((y:Int)≤(hi:Int))=false:=yC (by omega);have e3:((hi:Int)==0)=false:=zb (by omega);obtain⟨s,hs,qjo,hY,hYn⟩:=U0 (y:=y) (by omega) hy;have hL:=fun W=>S5 y W (by omega);rw[hs] at hL;have hL:=fun W=>(hL W).mono fun _ _ h=>(⟨h.1,h.2.symm⟩:_∧W=_);have hs0:(0:Int)≤(s:Int):=by omega
 have mz:(s:Int)≤64:=by omega
 have lQ:(0:Int)≤64-(s:Int):=by omega
 have vs:IntKind.u64.wrap (s:Int)=(s:Int):=by show (s:Int)%18446744073709551616=_;omega
 obtain⟨b1,b2,b3⟩:=Vl (s:=s) qjo qS aI;have R4:=fun q1 u1 q0=>@Vm hi lo y s q1 q0 u1 qjo;have hlp:lo/2^(64-s)<2^s:=(Nat.div_lt_iff_lt_mul (Nat.two_pow_pos _)).2 (by rw[←Nat.pow_add,show s+(64-s)=64 by omega];exact qS);have hhp:(hi+1)*2^s≤18446744073709551616:=yH (Nat.mul_le_mul_right _ aI) (YG hY);have Ri:hi*2^s<18446744073709551616:=yK (Nat.mul_lt_mul_of_pos_right (Nat.lt_succ_self hi) (Nat.two_pow_pos s)) hhp
 have vY:IntKind.u64.wrap ((y:Int)*2^s)=((y*2^s:Nat):Int):=by
  rw[show (y:Int)*2^s=((y*2^s:Nat):Int) by simp];exact Mul64.wrapN _ hY
 have vhi:IntKind.u64.wrap ((hi:Int)*2^s)=((hi*2^s:Nat):Int):=by
  rw[show (hi:Int)*2^s=((hi*2^s:Nat):Int) by simp];exact Mul64.wrapN _ Ri
 have vl:IntKind.u64.wrap ((lo:Int)*2^s)=((lo*2^s%18446744073709551616:Nat):Int):=by
  rw[show (lo:Int)*2^s=((lo*2^s:Nat):Int) by simp];exact Mul64.wrapM _
 have vlo:(lo:Int)/2^(64-s)=((lo/2^(64-s):Nat):Int):=by
  rw[Int.natCast_ediv];simp
 have vor:=Qt hhp hlp;obtain⟨Y,hYe⟩:=zo (y*2^s);obtain⟨U,hUe⟩:=zo (hi*2^s+lo/2^(64-s));obtain⟨L,hLe⟩:=zo (lo*2^s%18446744073709551616);have hLb:L<18446744073709551616:=by rw[←hLe];exact YJ _ (by decide)
 rw[hYe] at hY hYn vY b1 R4;rw[hUe] at b1 vor R4;rw[hLe] at b2 b3 vl R4;have vy1:=Mul64.divN Y;have vy0:=Mul64.maskN Y hY;have vl1:=Mul64.divN L;have vl0:=Mul64.maskN L hLb;have HY:Y0 (Y/4294967296*4294967296+Y%4294967296=Y):=Nat.div_add_mod' _ _;have HD:Y0 (DigitH 4294967296 U (L/4294967296) (Y/4294967296) (Y%4294967296)):=⟨by omega,by omega,by omega,by omega,by omega,by rw[HY.o];exact b1⟩;have tz:Y0 (L%4294967296<4294967296):=b3
 have VX:=zh R4;have HYb:Y0 (0<Y∧Y<18446744073709551616∧L/4294967296<4294967296):=⟨by omega,hY,b2⟩;generalize Y/4294967296=y1 at*;generalize Y%4294967296=y0 at*;generalize L/4294967296=d1 at*;generalize L%4294967296=d0 at*;obtain⟨TC,hrf,hqf⟩:=qy HD.o;have j1:IntKind.u64.wrap ((U:Int)/(y1:Int))=((U/y1:Nat):Int):=by rw[←Int.natCast_ediv];exact Mul64.wrapN _ (by omega)
 have j2:IntKind.u64.wrap (((U/y1:Nat):Int)*(y1:Int))=((U/y1*y1:Nat):Int):=by
  rw[Mul64.mulN];exact Mul64.wrapN _ (by have:=Nat.div_mul_le_self U y1;omega)
 have j3:IntKind.u64.wrap ((U:Int)-((U/y1*y1:Nat):Int))=((U%y1:Nat):Int):=by
  have h1:=Nat.div_add_mod' U y1;rw[show (U:Int)-((U/y1*y1:Nat):Int)=((U%y1:Nat):Int) by omega];exact Mul64.wrapN _ (by omega)
 have y1n:((y1:Int)==0)=false:=zb (by have:=HD.o.pos;omega);have y1z:¬y1=0:=by have:=HD.o.pos;omega
 generalize U/y1=qf at*;generalize U%y1=rf at*;generalize qf*y1=pf at*;generalize hi*2^s=P1 at*;generalize lo/2^(64-s)=P2 at*;have HTf:=zh TC;clear TC hYe hUe hLe hhp hlp Ri R4 b1 b2 b3 hLb;go_enter Tryz.func102,Tryz.ntmps102;go_upto_region 17 with (go_at_call 142;refine (hL _).mono ?_;rintro e w2 ⟨rfl,rfl⟩);clear hL e1 e2 e3 vs vY vy1 vy0 vhi vlo vor vl vl1 vl0 j1 j2 j3 hs qjo hY hYn h0 aI qS hy;go_loopw [15,16] (fun qv rv wr=>∃q r:Nat,qv=.int .u64 q∧rv=.int .u64 r∧r<4294967296∧q≤4294967297∧Y0 (TrialQ 4294967296 U d1 y1 y0 q r)∧w=wr) (fun qv _ _=>(intOf qv).toNat)
 case atStart=>exact⟨qf,rf,rfl,rfl,hrf,hqf,HTf,rfl⟩
 clear HTf hrf hqf;obtain⟨q,r,rfl,rfl,hrB,hqB,HT,rfl⟩:=hrel;have Yy:=HD.o.low;have y1b:=HD.o.y1b;by_cases CQ:rN 4294967296 d1 y0 q r
 case' neg=>
  have hb:¬4294967296≤q:=fun h=>CQ (.inl h);have t1:decide ((4294967296:Int)≤(q:Int))=false:=yC (by omega);have Wn:decide (4294967296≤q)=false:=yC hb;obtain⟨A1,A2,hA,m1,A0,m2,m3⟩:=tS (q:=q) (y0:=y0) (d:=d1) (r:=r) (by omega) Yy hrB HD.o.dig;have hc:¬A1<A2:=fun h=>CQ (.inr (hA.1 h));have t2:decide ((A1:Int)<(A2:Int))=false:=yC (by omega);have t2':decide (A1<A2)=false:=yC hc;have HE:Y0 (r=r∧q=(U*4294967296+d1)/(y1*4294967296+y0)∧q<4294967296):=⟨rfl,lX HD.o HT.o (.inl CQ)⟩
  clear hA hc CQ HT;obtain⟨q1,rfl⟩:∃q1,q1=q:=⟨_,rfl⟩
 case' pos=>
  by_cases hb:4294967296≤q
  case' pos=>
   have t1:decide ((4294967296:Int)≤(q:Int))=true:=yD (by omega);have Wn:decide (4294967296≤q)=true:=yD hb
  case' neg=>
   have t1:decide ((4294967296:Int)≤(q:Int))=false:=yC (by omega);have Wn:decide (4294967296≤q)=false:=yC hb;obtain⟨A1,A2,hA,m1,A0,m2,m3⟩:=tS (q:=q) (y0:=y0) (d:=d1) (r:=r) (by omega) Yy hrB HD.o.dig;have hc:A1<A2:=hA.2 (CQ.resolve_left hb);have t2:decide ((A1:Int)<(A2:Int))=true:=yD (by omega);have t2':decide (A1<A2)=true:=yD hc;clear hA hc
  all_goals
   have wS:=sT HD.o HT.o CQ;have hq0:=p8 HD.o CQ;have m5:IntKind.u64.wrap ((q:Int)-1)=((q-1:Nat):Int):=by
    rw[show (q:Int)-1=((q-1:Nat):Int) by omega];exact Mul64.wrapN _ (by omega)
   have m6:IntKind.u64.wrap ((r:Int)+(y1:Int))=((r+y1:Nat):Int):=by rw[Mul64.addN];exact Mul64.wrapN _ (by omega)
   have m7:q-1≤4294967297:=by omega
   have m8:q-1<q:=by omega
   obtain⟨q2,U9⟩:=zo (q-1);obtain⟨r2,U8⟩:=zo (r+y1);rw[U9] at m5 m7 m8 wS;rw[U8] at m6 wS;have r6:=zh wS;clear U9 U8 wS hq0 CQ HT;by_cases hr:r2<4294967296
   ·have t9:decide ((4294967296:Int)≤(r2:Int))=false:=yC (by omega);have t9':decide (4294967296≤r2)=false:=yC (by omega);go_wp2_with fail;go_roundw
    case rel=>exact⟨q2,r2,rfl,rfl,hr,m7,r6,by first|rfl|trivial⟩
    simp[intOf];omega
   have t9:decide ((4294967296:Int)≤(r2:Int))=true:=yD (by omega);have t9':decide (4294967296≤r2)=true:=yD (by omega);have HE:Y0 (r2=r2∧q2=(U*4294967296+d1)/(y1*4294967296+y0)∧q2<4294967296):=⟨rfl,lX HD.o r6.o (.inr (by omega))⟩;clear r6 hr m7 m8;obtain⟨q1,eq1⟩:∃q1,q1=q2:=⟨_,rfl⟩;rw[←eq1] at HE m5;clear eq1
 all_goals
  go_upto_region 21 with fail
  try clear m5 m6 t9 t9'
  try clear m1 m2 m3 t2 t2'
  clear t1 Wn hb hrB hqB Yy y1b;obtain⟨-,qjp,qky⟩:=HE.o;obtain⟨n1,n2,n3,n4⟩:=IH (u:=U) (d:=d1) (Y:=Y) (q:=q1) (by rw[qjp,HY.o]) HYb.o;have hu1:(U*4294967296+d1)%Y<Y:=YJ _ (by have:=HYb.o;omega);obtain⟨u1,qjm⟩:∃u1,u1=(U*4294967296+d1)%Y:=⟨_,rfl⟩;have VX:=zh fun u q0 hu h0=>VX.o q1 u q0 (by rw[qjp,HY.o]) hu h0;have HU1:=zh qjm;rw[←qjm] at n4 hu1;have HQ1:Y0 (q1<4294967296):=qky;have cP:Y0 (DigitH 4294967296 u1 d0 y1 y0):=⟨HD.o.pos,HD.o.y1b,HD.o.nrm,HD.o.low,tz.o,by rw[HY.o];exact hu1⟩
  clear qjp HE qjm qky hu1 HD tz;have HD:=cP;obtain⟨TC,hrf,hqf⟩:=qy HD.o;have j1:IntKind.u64.wrap ((u1:Int)/(y1:Int))=((u1/y1:Nat):Int):=by rw[←Int.natCast_ediv];exact Mul64.wrapN _ (by omega)
  have j2:IntKind.u64.wrap (((u1/y1:Nat):Int)*(y1:Int))=((u1/y1*y1:Nat):Int):=by
   rw[Mul64.mulN];exact Mul64.wrapN _ (by have:=Nat.div_mul_le_self u1 y1;have:=HD.o.lt;have:=HY.o;have:=HYb.o;omega)
  have j3:IntKind.u64.wrap ((u1:Int)-((u1/y1*y1:Nat):Int))=((u1%y1:Nat):Int):=by
   have h1:=Nat.div_add_mod' u1 y1;rw[show (u1:Int)-((u1/y1*y1:Nat):Int)=((u1%y1:Nat):Int) by omega];exact Mul64.wrapN _ (by omega)
  have y1n:((y1:Int)==0)=false:=zb (by have:=HD.o.pos;omega);have y1z:¬y1=0:=by have:=HD.o.pos;omega
  generalize u1/y1=qf at*;generalize u1%y1=rf at*;obtain⟨pf,hpf⟩:=zo (qf*y1);rw[hpf] at j2 j3;clear hpf;obtain⟨N1,oF⟩:=zo (U*4294967296%18446744073709551616);obtain⟨N2,rJ⟩:=zo ((U*4294967296+d1)%18446744073709551616);obtain⟨N3,hN3⟩:=zo (q1*Y%18446744073709551616);rw[oF] at n1 n2;rw[rJ] at n2 n4;rw[hN3] at n3 n4;clear oF rJ hN3;have HTf:=zh TC;clear TC cP;go_upto_region 24 with fail;clear j1 j2 j3 n1 n2 n3 n4
  go_loopw [18,16] (fun qv rv wr=>∃q r:Nat,qv=.int .u64 q∧rv=.int .u64 r∧r<4294967296∧q≤4294967297∧Y0 (TrialQ 4294967296 u1 d0 y1 y0 q r)∧w=wr) (fun qv _ _=>(intOf qv).toNat)
  case atStart=>exact⟨qf,rf,rfl,rfl,hrf,hqf,HTf,rfl⟩
  clear HTf hrf hqf;obtain⟨q,r,rfl,rfl,hrB,hqB,HT,rfl⟩:=hrel;have Yy:=HD.o.low;have y1b:=HD.o.y1b;by_cases CQ:rN 4294967296 d0 y0 q r
  case' neg=>
   have hb:¬4294967296≤q:=fun h=>CQ (.inl h);have t1:decide ((4294967296:Int)≤(q:Int))=false:=yC (by omega);have Wn:decide (4294967296≤q)=false:=yC hb;obtain⟨A1,A2,hA,m1,A0,m2,m3⟩:=tS (q:=q) (y0:=y0) (d:=d0) (r:=r) (by omega) Yy hrB HD.o.dig;have hc:¬A1<A2:=fun h=>CQ (.inr (hA.1 h));have t2:decide ((A1:Int)<(A2:Int))=false:=yC (by omega);have t2':decide (A1<A2)=false:=yC hc;have HE:Y0 (r=r∧q=(u1*4294967296+d0)/(y1*4294967296+y0)∧q<4294967296):=⟨rfl,lX HD.o HT.o (.inl CQ)⟩
   clear hA hc CQ HT;obtain⟨q0,rfl⟩:∃q0,q0=q:=⟨_,rfl⟩
  case' pos=>
   by_cases hb:4294967296≤q
   case' pos=>
    have t1:decide ((4294967296:Int)≤(q:Int))=true:=yD (by omega);have Wn:decide (4294967296≤q)=true:=yD hb
   case' neg=>
    have t1:decide ((4294967296:Int)≤(q:Int))=false:=yC (by omega);have Wn:decide (4294967296≤q)=false:=yC hb;obtain⟨A1,A2,hA,m1,A0,m2,m3⟩:=tS (q:=q) (y0:=y0) (d:=d0) (r:=r) (by omega) Yy hrB HD.o.dig;have hc:A1<A2:=hA.2 (CQ.resolve_left hb);have t2:decide ((A1:Int)<(A2:Int))=true:=yD (by omega);have t2':decide (A1<A2)=true:=yD hc;clear hA hc
   all_goals
    have wS:=sT HD.o HT.o CQ;have hq0:=p8 HD.o CQ;have m5:IntKind.u64.wrap ((q:Int)-1)=((q-1:Nat):Int):=by
     rw[show (q:Int)-1=((q-1:Nat):Int) by omega];exact Mul64.wrapN _ (by omega)
    have m6:IntKind.u64.wrap ((r:Int)+(y1:Int))=((r+y1:Nat):Int):=by rw[Mul64.addN];exact Mul64.wrapN _ (by omega)
    have m7:q-1≤4294967297:=by omega
    have m8:q-1<q:=by omega
    obtain⟨q2,U9⟩:=zo (q-1);obtain⟨r2,U8⟩:=zo (r+y1);rw[U9] at m5 m7 m8 wS;rw[U8] at m6 wS;have r6:=zh wS;clear U9 U8 wS hq0 CQ HT;by_cases hr:r2<4294967296
    ·have t9:decide ((4294967296:Int)≤(r2:Int))=false:=yC (by omega);have t9':decide (4294967296≤r2)=false:=yC (by omega);go_wp2_with fail;go_roundw
     case rel=>exact⟨q2,r2,rfl,rfl,hr,m7,r6,by first|rfl|trivial⟩
     simp[intOf];omega
    have t9:decide ((4294967296:Int)≤(r2:Int))=true:=yD (by omega);have t9':decide (4294967296≤r2)=true:=yD (by omega);have HE:Y0 (r2=r2∧q2=(u1*4294967296+d0)/(y1*4294967296+y0)∧q2<4294967296):=⟨rfl,lX HD.o r6.o (.inr (by omega))⟩;clear r6 hr m7 m8;obtain⟨q0,eq0⟩:∃q0,q0=q2:=⟨_,rfl⟩;rw[←eq0] at HE m5;clear eq0
  all_goals
   go_upto_region 28 with fail
   try clear m5 m6 t9 t9'
   try clear m1 m2 m3 t2 t2'
   clear t1 Wn hb hrB hqB Yy y1b;obtain⟨-,qjq,vwM⟩:=HE.o;have k1:IntKind.u64.wrap ((q1:Int)*4294967296)=((q1*4294967296:Nat):Int):=by
    rw[show (q1:Int)*(4294967296:Int)=((q1*4294967296:Nat):Int) by omega]
    have:=HQ1.o;exact Mul64.wrapN _ (by omega)
   have k2:IntKind.u64.wrap (((q1*4294967296:Nat):Int)+(q0:Int))=((q1*4294967296+q0:Nat):Int):=by
    rw[Mul64.addN]
    have:=HQ1.o;exact Mul64.wrapN _ (by omega)
   obtain⟨n1,n2,n3,n4⟩:=IH (u:=u1) (d:=d0) (Y:=Y) (q:=q0) (by rw[qjq,HY.o]) ⟨HYb.o.1,HYb.o.2.1,HD.o.dig⟩;obtain⟨hr1,U8⟩:=VX.o u1 q0 HU1.o (by rw[qjq,HY.o]);have k3:(((u1*4294967296+d0)%Y:Nat):Int)/2^s=((((u1*4294967296+d0)%Y)/2^s:Nat):Int):=by
    rw[Int.natCast_ediv];simp
   rw[U8] at k3;rw[hr1] at k2;clear qjq HE HD VX HU1 HY hr1 U8;obtain⟨R0,hR0⟩:=zo ((u1*4294967296+d0)%Y);obtain⟨N1,oF⟩:=zo (u1*4294967296%18446744073709551616);obtain⟨N2,rJ⟩:=zo ((u1*4294967296+d0)%18446744073709551616);obtain⟨N3,hN3⟩:=zo (q0*Y%18446744073709551616);obtain⟨N4,hN4⟩:=zo (q1*4294967296);rw[oF] at n1 n2;rw[rJ] at n2 n4;rw[hN3] at n3 n4;rw[hR0] at n4 k3;rw[hN4] at k1 k2;clear oF rJ hN3 hN4 hR0
   obtain⟨R,hR⟩:=zo ((hi*18446744073709551616+lo)%y);obtain⟨Q,hQ⟩:=zo ((hi*18446744073709551616+lo)/y);rw[hR] at k3;rw[hQ] at k2;have HRR:=zh hR;have HQQ:=zh hQ;clear hR hQ;go_wp2_with fail;go_ret2;exact⟨by rw[HRR.o,HQQ.o];rfl,rfl⟩
theorem LF (hi lo y:Nat) (w:World) (aI:hi<y) (qS:lo<18446744073709551616) (hy:y<18446744073709551616) :
  Calls Tryz.prog 102 #[.int .u64 hi,.int .u64 lo,.int .u64 y] w fun e w'=>e=.returned (.tuple #[.int .u64 (((hi*18446744073709551616+lo)/y:Nat):Int),.int .u64 (((hi*18446744073709551616+lo)%y:Nat):Int)])∧∃n,w.drewN n=w':=by
 rcases Nat.eq_zero_or_pos hi with h0|h0
 ·subst h0;rw[Nat.zero_mul,yS];exact Iu lo y w aI qS hy
 exact (Is hi lo y w h0 aI qS hy).mono fun _ _ h=>⟨h.1,0,h.2⟩
