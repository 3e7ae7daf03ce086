/- Lemmas. -/
import Derived.Deep.DeepCutAuto
import Derived.Test.YtmmhehgajkaniaaGreatDoorZ7
namespace Go.Proofs.YtmmhehgajkaniaaGreatDoor
set_option maxRecDepth 100000
set_option maxHeartbeats 40000000
open Go.RowKit Go.Shelf
def iS (a b:FrT):Int:=if a.num*b.den<b.num*a.den then -1 else if b.num*a.den<a.num*b.den then 1 else 0
theorem ez {x:FrT} (h:au x=true):1≤x.den∧x.den≤1152921504606846976 ∧ -1152921504606846976≤x.num∧x.num≤1152921504606846976:=by
 unfold au at h;simp only[Bool.and_eq_true,decide_eq_true_eq] at h;exact⟨h.1.1.1.1,h.1.1.1.2,h.1.1.2,h.1.2⟩
def zI (B:Nat) (v:Value) (w:World):Prop:=∃g,v=.pointer (some ⟨g,0,none⟩)∧B≤g∧Blk w g 185 #[.int .u64 0,.int .u64 0]
def gWd (B:Nat):GPost:=⟨fun v=>∃g,v=.pointer (some ⟨g,0,none⟩),zI B,⟨_,0,rfl⟩,fun _ _ _ hb h=>by
 obtain⟨g,h1,h2,h3⟩:=h;exact⟨g,h1,h2,h3.below hb h3.lt⟩,true⟩
theorem vN {P:Program} {o:Oper} {a:Act} {w:World} {B:Nat} (hB:B≤w.heap.size) (h:(execOp a.eval o).run P w=.ok (.value (.pointer (some ⟨w.heap.size,0,none⟩))) (w.alloc (.cells #[.int .u64 0,.int .u64 0] 185))):kX P o a (gWd B) w :=
 ⟨_,_,h,(yB _ _).alloc (yA _) _,⟨_,rfl⟩,⟨_,rfl,hB,Blk.new _ _ _⟩,fun _=>⟨w.heap.size,rfl,yA _,by simp⟩⟩
theorem Cd {n:Int} (w:World) (h1 : -1152921504606846976≤n) (h2:n≤1152921504606846976) :
  Calls Tryz.prog 90 #[.int .i64 n] w fun e w'=>∃v,e=.returned v∧Below w.heap.size w w'∧(gV (.int .u64 (n.natAbs:Nat))).σ v∧(gV (.int .u64 (n.natAbs:Nat))).φ v w' :=
 (IA n w h1 h2).mono fun _ _ ⟨he,hw⟩=>⟨_,he,hw▸yB _ _,rfl,trivial⟩
theorem Cw {x y:Nat} (w:World) (hx:x<18446744073709551616) (hy:y<18446744073709551616) :
  Calls Tryz.prog 135 #[.int .u64 x,.int .u64 y] w fun e w'=>∃v,e=.returned v∧Below w.heap.size w w'∧(gV (fq (x*y))).σ v∧(gV (fq (x*y))).φ v w' :=
 (N6 x y hx hy w).mono fun _ _ ⟨he,hb⟩=>⟨_,he,hb,rfl,trivial⟩
theorem Ca {o w W:World} {g6 g7:Nat} {xn xd yn yd:Value} (hB:Below w.heap.size w W) (h6:w.heap.size + 1 < g6) (h7:w.heap.size + 1 < g7) (dL:g7 ≠ g6) (b6:Blk W g6 185 #[.int .u64 0,.int .u64 0]) (b7:Blk W g7 185 #[.int .u64 0,.int .u64 0])
  (d0:Blk W w.heap.size 29 #[xn,xd]) (d1:Blk W (w.heap.size+1) 29 #[yn,yd]) (x0 x1 y0 y1:Value) (hW:o=((((W.setCell ⟨g6,0,none⟩ x0).setCell ⟨g6,1,none⟩ x1).setCell ⟨g7,0,none⟩ y0).setCell ⟨g7,1,none⟩ y1)) :
  Below w.heap.size w o∧Blk o g6 185 #[x0,x1]∧Blk o g7 185 #[y0,y1]∧Blk o w.heap.size 29 #[xn,xd]∧Blk o (w.heap.size+1) 29 #[yn,yd]:=by
 subst hW;have k4:=fun {g:Nat} {t:TypeId} {c:Array Value} (hb:Blk W g t c) (h1:g≠g6) (h2:g≠g7)=>(((hb.far (p:=⟨g6,0,none⟩) h1 x0).far (p:=⟨g6,1,none⟩) h1 x1).far (p:=⟨g7,0,none⟩) h2 y0).far (p:=⟨g7,1,none⟩) h2 y1;exact⟨(((hB.setCell (by show w.heap.size≤g6;omega) _).setCell (by show w.heap.size≤g6;omega) _).setCell (by show w.heap.size≤g7;omega) _).setCell (by show w.heap.size≤g7;omega) _,
  (((b6.set_ 0 x0).set_ 1 x1).far (p:=⟨g7,0,none⟩) (Ne.symm dL) y0).far (p:=⟨g7,1,none⟩) (Ne.symm dL) y1,(((b7.far (p:=⟨g6,0,none⟩) dL x0).far (p:=⟨g6,1,none⟩) dL x1).set_ 0 y0).set_ 1 y1,k4 d0 (by omega) (by omega),k4 d1 (by omega) (by omega)⟩
theorem ZG {a b:FrT} (ha:au a=true) (hb:au b=true) (h0:0≤a.num) (eH:0≤b.num):(a.num*b.den<b.num*a.den↔a.num.natAbs*b.den.natAbs<b.num.natAbs*a.den.natAbs)∧(b.num*a.den<a.num*b.den↔b.num.natAbs*a.den.natAbs<a.num.natAbs*b.den.natAbs):=by
 have h1:=(ez ha).1;have h2:=(ez hb).1;obtain⟨an,ad⟩:=a;obtain⟨bn,bd⟩:=b;simp only at*;obtain⟨x,rfl⟩:=Int.eq_ofNat_of_zero_le h0;obtain⟨y,rfl⟩:=Int.eq_ofNat_of_zero_le eH;obtain⟨u,rfl⟩:=Int.eq_ofNat_of_zero_le (show 0≤ad by omega);obtain⟨v,rfl⟩:=Int.eq_ofNat_of_zero_le (show 0≤bd by omega);simp only[Int.natAbs_natCast];rw[←Int.natCast_mul,←Int.natCast_mul];omega
theorem ZF {a b:FrT} (ha:au a=true) (hb:au b=true) (h0:a.num<0) (eH:0≤b.num):iS a b=-1:=by
 have h1:=(ez ha).1;have h2:=(ez hb).1;unfold iS;have e1:a.num*b.den<0:=Int.mul_neg_of_neg_of_pos h0 (by omega);have e2:0≤b.num*a.den:=Int.mul_nonneg eH (by omega);rw[if_pos (by omega)]
theorem VH {a b:FrT} (ha:au a=true) (hb:au b=true) (h0:a.num<0) (eH:b.num<0):(a.num*b.den<b.num*a.den↔b.num.natAbs*a.den.natAbs<a.num.natAbs*b.den.natAbs)∧(b.num*a.den<a.num*b.den↔a.num.natAbs*b.den.natAbs<b.num.natAbs*a.den.natAbs):=by
 have h1:=(ez ha).1;have h2:=(ez hb).1;obtain⟨an,ad⟩:=a;obtain⟨bn,bd⟩:=b;simp only at*;obtain⟨x,rfl⟩:∃x:Nat,an=-(x:Int):=⟨an.natAbs,by omega⟩;obtain⟨y,rfl⟩:∃y:Nat,bn=-(y:Int):=⟨bn.natAbs,by omega⟩;obtain⟨u,rfl⟩:=Int.eq_ofNat_of_zero_le (show 0≤ad by omega);obtain⟨v,rfl⟩:=Int.eq_ofNat_of_zero_le (show 0≤bd by omega);simp only[Int.natAbs_natCast,Int.natAbs_neg,Int.neg_mul];rw[←Int.natCast_mul,←Int.natCast_mul]
 omega
theorem ZE {a b:FrT} (ha:au a=true) (hb:au b=true) (h0:0≤a.num) (eH:b.num<0):iS a b=1:=by
 have h1:=(ez ha).1;have h2:=(ez hb).1;unfold iS;have e1:b.num*a.den<0:=Int.mul_neg_of_neg_of_pos eH (by omega);have e2:0≤a.num*b.den:=Int.mul_nonneg h0 (by omega);rw[if_neg (by omega),if_pos (by omega)]
def tK (m n:Nat):Int:=if m<n then -1 else if n<m then 1 else 0
theorem Gt {a b:FrT} (ha:au a=true) (hb:au b=true):(a.num<0→0≤b.num→iS a b=-1)∧(0≤a.num→b.num<0→iS a b=1)∧(0≤a.num→0≤b.num→iS a b=tK (a.num.natAbs*b.den.natAbs) (b.num.natAbs*a.den.natAbs))∧(a.num<0→b.num<0→iS a b=tK (b.num.natAbs*a.den.natAbs) (a.num.natAbs*b.den.natAbs)) :=
 ⟨ZF ha hb,ZE ha hb,fun h0 h1=>by have h:=ZG ha hb h0 h1;unfold iS tK;simp only[h.1,h.2],fun h0 h1=>by have h:=VH ha hb h0 h1;unfold iS tK;simp only[h.1,h.2]⟩
theorem CZ {m n:Nat} (h:m<n):tK m n=-1:=if_pos h
theorem Da {m n:Nat} (h:n<m):tK m n=1:=by unfold tK;rw[if_neg (by omega),if_pos h]
theorem Db {m n:Nat} (h:m=n):tK m n=0:=by unfold tK;rw[if_neg (by omega),if_neg (by omega)]
theorem qqs (a b:FrT) (w:World) (ha:au a=true) (hb:au b=true) :
  Calls Tryz.prog 137 #[a.val,b.val] w fun e w'=>e=.returned (.tuple #[.int .i64 (iS a b),.int .i64 0])∧Below w.heap.size w w':=by
 have nJ:=fun W=>pw a W;have hvb:=fun W=>pw b W;rw[ha] at nJ;rw[hb] at hvb;have HX:=zh (Gt ha hb);obtain⟨a1,a2,a3,a4⟩:=ez ha;obtain⟨b1,b2,b3,b4⟩:=ez hb;have wa:IntKind.u64.wrap a.den=((a.den.natAbs:Nat):Int):=by show a.den%18446744073709551616=_;omega
 have wb:IntKind.u64.wrap b.den=((b.den.natAbs:Nat):Int):=by show b.den%18446744073709551616=_;omega
 have hSa:=fun W=>Cd (n:=a.num) W a3 a4;have hSb:=fun W=>Cd (n:=b.num) W b3 b4;have hP1:=fun W=>Cw (x:=a.num.natAbs) (y:=b.den.natAbs) W (by omega) (by omega);have hP2:=fun W=>Cw (x:=b.num.natAbs) (y:=a.den.natAbs) W (by omega) (by omega);clear ha hb a1 a2 a3 a4 b1 b2 b3 b4;generalize iS a b=cr at*;obtain⟨an,ad⟩:=a;obtain⟨bn,bd⟩:=b;simp only at*;have GD:=zh hSa;have vZ:=zh hSb;have Wy:=zh hP1;have Wx:=zh hP2
 clear hSa hSb hP1 hP2;have D0:=(Blk.new w 29 #[.int .i64 an,.int .i64 ad]).alloc (.cells #[.int .i64 bn,.int .i64 bd] 29);have D1:=Blk.new (w.alloc (.cells #[.int .i64 an,.int .i64 ad] 29)) 29 #[.int .i64 bn,.int .i64 bd];rw[yZ] at D1;have hB:=((yB _ w).alloc (yA _) (.cells #[.int .i64 an,.int .i64 ad] 29)).alloc (by simp) (.cells #[.int .i64 bn,.int .i64 bd] 29);have hs:((w.alloc (.cells #[.int .i64 an,.int .i64 ad] 29)).alloc (.cells #[.int .i64 bn,.int .i64 bd] 29)).heap.size=w.heap.size+1+1:=by simp
 go_enter Tryz.func137,Tryz.ntmps137;go_wp2_with fail;generalize (w.alloc (.cells #[.int .i64 an,.int .i64 ad] 29)).alloc (.cells #[.int .i64 bn,.int .i64 bd] 29)=W1 at*;refine (nJ W1).mono ?_;rintro e w2 ⟨rfl,aU⟩;have D0:=D0.below aU D0.lt;have D1:=D1.below aU D1.lt;have hB:=hB.trans (aU.mono hB.size);have hs:w.heap.size+1<w2.heap.size:=by have:=aU.size;omega
 obtain⟨u0,u1⟩:=D1.c2;go_wp2_with fail;refine (hvb w2).mono ?_;rintro e w3 ⟨rfl,bM⟩;clear u0 u1 nJ hvb;have D0:=zh (D0.below bM D0.lt);have D1:=zh (D1.below bM D1.lt);have HB:=zh (hB.trans (bM.mono hB.size));have Hs:Y0 (w.heap.size+1<w3.heap.size):=by have:=bM.size;unfold Y0;omega
 clear aU bM hB hs;go_wp2_with (exact zX);have y0:=D0.o.cell 0;have y1:=D0.o.cell 1;have y2:=D1.o.cell 0;have y3:=D1.o.cell 1;simp only[aG,aH,aD] at y0 y1 y2 y3;have u0:=YL y0;have u1:=YL y1;have u2:=YL y2;have u3:=YL y3;clear y0 y1 y2 y3;refine dO 16 (fun jx=>if jx=2 then some (gV (.int .u64 (an.natAbs:Nat))) else if jx=6 then some (gV (fq (an.natAbs*bd.natAbs))) else if jx=9 then some (gV (.int .u64 (bn.natAbs:Nat))) else if jx=13 then some (gV (fq (bn.natAbs*ad.natAbs))) else if jx=14 then some (gWd w3.heap.size) else if jx=15 then some (gWd w3.heap.size) else none) [6,7] (by kernel_rfl) (by kernel_rfl) (by kernel_rfl) (nS rfl rfl) ?_
 simp only[aM,aP,aN,aO];refine zw 2 ?_;simp only[aM,aP,aN,aO]
 repeat (go_big_quiet_step (fail))
 refine YE ?_;refine ae rfl rfl (fun w1 _ _=>zc (GD.o w1)) ?_;rintro _ rfl;simp only[Act.put,aC,aB,aA];refine zw 3 ?_;simp only[aM,aP,aN,aO]
 repeat (go_big_quiet_step (fail))
 refine YE ?_;refine ae rfl rfl (fun w1 _ _=>zc (Wy.o w1)) ?_;rintro _ rfl;simp only[Act.put,aC,aB,aA];refine zw 2 ?_;simp only[aM,aP,aN,aO]
 repeat (go_big_quiet_step (fail))
 refine YE ?_;refine ae rfl rfl (fun w1 _ _=>zc (vZ.o w1)) ?_;rintro _ rfl;simp only[Act.put,aC,aB,aA];refine zw 3 ?_;simp only[aM,aP,aN,aO]
 repeat (go_big_quiet_step (fail))
 refine YE ?_;refine ae rfl rfl (fun w1 _ _=>zc (Wx.o w1)) ?_;rintro _ rfl;simp only[Act.put,aC,aB,aA];refine aV rfl rfl (fun w1 ak _=>vN ak.size (by go_simp)) ?_;rintro _ ⟨g6,rfl⟩;simp only[Act.put,aC,aB,aA];refine aV rfl rfl (fun w1 ak _=>vN ak.size (by go_simp)) ?_;rintro _ ⟨g7,rfl⟩;simp only[Act.put,aC,aB,aA];refine Zc ?_;intro w8 aJ hF hA;have h6:zI w3.heap.size (.pointer (some ⟨g6,0,none⟩)) w8:=hF 6
 have h7:zI w3.heap.size (.pointer (some ⟨g7,0,none⟩)) w8:=hF 7;have K7:g7≠g6:=fun e=>(hA 6 (by simp) g6 rfl).2 7 (by simp) (by decide) (by rw[e];rfl);have D08:=D0.o.below aJ D0.o.lt;have D18:=D1.o.below aJ D1.o.lt;have B8:=HB.o.trans (aJ.mono HB.o.size);obtain⟨_,e6,l6,b6⟩:=h6;obtain⟨_,e7,l7,b7⟩:=h7;injection e6 with e6;injection e6 with e6;injection e6 with e6 _ _;injection e7 with e7;injection e7 with e7
 injection e7 with e7 _ _;subst e6 e7;have C6:=Hs.o;obtain⟨B9,p6,p7,p0,p1⟩:=Ca B8 (by omega) (by omega) K7 b6 b7 D08 D18 (.int .u64 ((an.natAbs*bd.natAbs/18446744073709551616:Nat):Int)) (.int .u64 ((an.natAbs*bd.natAbs%18446744073709551616:Nat):Int)) (.int .u64 ((bn.natAbs*ad.natAbs/18446744073709551616:Nat):Int)) (.int .u64 ((bn.natAbs*ad.natAbs%18446744073709551616:Nat):Int)) rfl;have kF:Y0 ((an<0→0≤bn→cr=-1)∧(0≤an→bn<0→cr=1)∧(0≤an→0≤bn→cr=tK (an.natAbs*bd.natAbs) (bn.natAbs*ad.natAbs))∧(an<0→bn<0→cr=tK (bn.natAbs*ad.natAbs) (an.natAbs*bd.natAbs))):=HX.o
 have Z3:=b6.frozen 0;have Z2:=b6.frozen 1;have MK:=(b7.far (p:=⟨g6,0,none⟩) K7 (.int .u64 ((an.natAbs*bd.natAbs/18446744073709551616:Nat):Int))).far (p:=⟨g6,1,none⟩) K7 (.int .u64 ((an.natAbs*bd.natAbs%18446744073709551616:Nat):Int));have Wg:=MK.set_ 0 (.int .u64 ((bn.natAbs*ad.natAbs/18446744073709551616:Nat):Int));have f70:=MK.frozen 0;have f71:=Wg.frozen 1;have b70:=MK.cell 0;have Xm:=Wg.cell 1
 have GU:=p6.cell 0;have GR:=p6.cell 1;have GQ:=p7.cell 0;have GN:=p7.cell 1;have XW:=p0.cell 0;have gL:=p1.cell 0;have b60:=b6.cell 0;have b61:=b6.cell 1;simp only[aC,aB] at Xm;simp only[aG,aH,aD] at GU GR GQ GN XW gL b60 b61 b70 Xm;generalize an.natAbs*bd.natAbs=m at*;generalize bn.natAbs*ad.natAbs=n at*;have FO:=fun W=>QB m n W;have Kz:=fun W=>QB n m W;unfold fq at*;generalize ((m/18446744073709551616:Nat):Int)=mh at*
 generalize ((m%18446744073709551616:Nat):Int)=ml at*;generalize ((n/18446744073709551616:Nat):Int)=nh at*;generalize ((n%18446744073709551616:Nat):Int)=nl at*;have P6:=zh p6;have P7:=zh p7;have B9:=zh B9;have H67:=zh K7;have WG:Y0 (w.heap.size<g6∧w.heap.size<g7):=by unfold Y0;omega
 clear MK Wg HX GD vZ Wy Wx K7 C6 Hs l6 l7 b6 b7 p6 p7 p0 p1 B8 D08 D18 hA hF aJ HB D0 D1 u0 u1 u2 u3;by_cases c0:an<0
 case' neg=>
  have d0:decide (an<0)=false:=yC c0;by_cases cb:bn<0
  case' neg=>
   have db:decide (bn<0)=false:=yC cb;have ck:=zh (kF.o.2.2.1 (by omega) (by omega));obtain⟨x,rfl⟩:∃x,x=m:=⟨_,rfl⟩;obtain⟨y,rfl⟩:∃y,y=n:=⟨_,rfl⟩;have S6:=P6;have S7:=P7;have C9:=B9;clear P6 P7 B9 H67 WG c0 cb kF
  case pos=>
   have db:decide (bn<0)=true:=yD cb;have DC:=kF.o.2.1 (by omega) cb;subst DC;clear kF;go_wp2_with fail;go_ret2;exact⟨rfl,B9.o⟩
 case' pos=>
  have d0:decide (an<0)=true:=yD c0;by_cases cb:bn<0
  case neg=>
   have db:decide (bn<0)=false:=yC cb;have DC:=kF.o.1 c0 (by omega);subst DC;clear kF;go_wp2_with fail;go_ret2;exact⟨rfl,B9.o⟩
  have db:decide (bn<0)=true:=yD cb;have ck:=zh (kF.o.2.2.2 c0 cb);clear c0 cb kF;go_upto_region 9 with fail;generalize (((w8.setCell ⟨g6,0,none⟩ (.int .u64 mh)).setCell ⟨g6,1,none⟩ (.int .u64 ml)).setCell ⟨g7,0,none⟩ (.int .u64 nh)).setCell ⟨g7,1,none⟩ (.int .u64 nl)=W9 at*;clear Z3 Z2 f70 f71 b60 b61 b70 Xm GU GR GQ GN XW gL;have GU:=P6.o.cell 0;have GR:=P6.o.cell 1;have GQ:=P7.o.cell 0;have GN:=P7.o.cell 1
  have Z3:=P6.o.frozen 0;have Z2:=P6.o.frozen 1;have f70:=P7.o.frozen 0;have f71:=P7.o.frozen 1;simp only[aG,aH,aD] at GU GR GQ GN;have UW:=H67.o;have S6:=zh ((((P6.o.set_ 0 (.int .u64 nh)).set_ 1 (.int .u64 nl)).far (p:=⟨g7,0,none⟩) (Ne.symm UW) (.int .u64 mh)).far (p:=⟨g7,1,none⟩) (Ne.symm UW) (.int .u64 ml));have S7:=zh ((((P7.o.far (p:=⟨g6,0,none⟩) UW (.int .u64 nh)).far (p:=⟨g6,1,none⟩) UW (.int .u64 nl)).set_ 0 (.int .u64 mh)).set_ 1 (.int .u64 ml))
  have C9:=zh ((((B9.o.setCell (p:=⟨g6,0,none⟩) (YG WG.o.1) (.int .u64 nh)).setCell (p:=⟨g6,1,none⟩) (YG WG.o.1) (.int .u64 nl)).setCell (p:=⟨g7,0,none⟩) (YG WG.o.2) (.int .u64 mh)).setCell (p:=⟨g7,1,none⟩) (YG WG.o.2) (.int .u64 ml));clear P6 P7 B9;go_upto_region 10 with fail;generalize (((W9.setCell ⟨g6,0,none⟩ (.int .u64 nh)).setCell ⟨g6,1,none⟩ (.int .u64 nl)).setCell ⟨g7,0,none⟩ (.int .u64 mh)).setCell ⟨g7,1,none⟩ (.int .u64 ml)=OV at*
  clear GU GR GQ GN Z3 Z2 f70 f71 UW;have GU:=S6.o.cell 0;have GR:=S6.o.cell 1;have GQ:=S7.o.cell 0;have GN:=S7.o.cell 1;simp only[aC,aB,aA,aG,aH,aD] at GU GR GQ GN;obtain⟨y,rfl⟩:∃y,y=m:=⟨_,rfl⟩;obtain⟨x,rfl⟩:∃x,x=n:=⟨_,rfl⟩;have hL3:=FO;have FO:=Kz;have Kz:=hL3;clear hL3
 all_goals
  by_cases c1:x<y
  ·rw[yD c1] at FO;have DC:=ck.o.trans (CZ c1);subst DC;clear c1 ck Kz;go_wp2_with fail;refine (FO _).mono ?_;rintro e w5 ⟨rfl,aR⟩;have hb:=C9.o.trans (aR.mono C9.o.size);go_wp2_with fail;go_ret2;exact⟨rfl,hb⟩
  rw[yC c1] at FO;go_wp2_with fail;refine (FO _).mono ?_;rintro e w5 ⟨rfl,aR⟩;have cJ:=zh (C9.o.trans (aR.mono C9.o.size));have P65:=S6.o.below aR S6.o.lt;have P75:=S7.o.below aR S7.o.lt;clear GU GR GQ GN;have GU:=P65.cell 0;have GR:=P65.cell 1;have GQ:=P75.cell 0;have GN:=P75.cell 1;simp only[aC,aB,aA,aG,aH,aD] at GU GR GQ GN;clear P65 P75 aR S6 S7 C9 FO;by_cases c2:y<x
  case' pos=>
   rw[yD c2] at Kz;have DC:=ck.o.trans (Da c2)
  case' neg=>
   rw[yC c2] at Kz;have DC:=ck.o.trans (Db (by omega))
  all_goals
   subst DC;clear c1 c2 ck;go_wp2_with fail;refine (Kz _).mono ?_;rintro e w6 ⟨rfl,ie⟩;have hb:=cJ.o.trans (ie.mono cJ.o.size);go_wp2_with fail;go_ret2;exact⟨rfl,hb⟩
theorem qj9 (a b:FrT) (w:World) (ha:au a=true) (hb:au b=true) (_:0≤b.num) :
  Calls Tryz.prog 137 #[a.val,b.val] w fun e w'=>e=.returned (.tuple #[.int .i64 (iS a b),.int .i64 0])∧Below w.heap.size w w':=qqs a b w ha hb
theorem LN (p q:Rat):(p*q).num=p.num/((p.num.natAbs.gcd q.den:Nat):Int)*(q.num/((q.num.natAbs.gcd p.den:Nat):Int)):=by
 show (Rat.mul p q).num=_;delta Rat.mul
 simp only[Int.divExact_eq_ediv]
theorem Yg (p q:Rat):(p*q).den=p.den/(q.num.natAbs.gcd p.den)*(q.den/(p.num.natAbs.gcd q.den)):=by
 show (Rat.mul p q).den=_;delta Rat.mul
 simp only[Nat.divExact_eq_div]
theorem oN {a:Int} {g:Nat} (hg:0<g) (h:g∣a.natAbs):(a/(g:Int)).natAbs=a.natAbs/g∧(a/(g:Int)<0↔a<0)∧(a/(g:Int)=0↔a=0):=by
 obtain⟨k,hk⟩:(g:Int)∣a:=Int.ofNat_dvd_left.2 h;subst hk;have hg':(g:Int)≠0:=by omega
 rw[Int.mul_ediv_cancel_left _ hg',Int.natAbs_mul,Int.natAbs_natCast,Nat.mul_div_cancel_left _ hg];refine⟨rfl,⟨fun h=>Int.mul_neg_of_pos_of_neg (by omega) h,fun h=>?_⟩,⟨fun h=>by rw[h,Int.mul_zero],fun h=>?_⟩⟩
 ·rcases (show k<0∨0≤k by omega) with h1|h1
  ·exact h1
  have:=Int.mul_nonneg (show (0:Int)≤g by omega) h1;omega
 rcases Int.mul_eq_zero.1 h with h|h
 ·omega
 exact h
theorem Yi (p q:Rat):(p*q).num.natAbs=p.num.natAbs/(p.num.natAbs.gcd q.den)*(q.num.natAbs/(q.num.natAbs.gcd p.den)):=by
 have h1:=oN (a:=p.num) (g:=p.num.natAbs.gcd q.den) (Nat.gcd_pos_of_pos_right _ q.den_pos) (Nat.gcd_dvd_left _ _);have h2:=oN (a:=q.num) (g:=q.num.natAbs.gcd p.den) (Nat.gcd_pos_of_pos_right _ p.den_pos) (Nat.gcd_dvd_left _ _);rw[LN,Int.natAbs_mul,h1.1,h2.1]
theorem Fw (p q:Rat):(p*q).num<0↔((p*q).num.natAbs≠0∧((p.num<0)≠(q.num<0))):=by
 have h1:=(oN (a:=p.num) (g:=p.num.natAbs.gcd q.den) (Nat.gcd_pos_of_pos_right _ q.den_pos) (Nat.gcd_dvd_left _ _)).2.1;have h2:=(oN (a:=q.num) (g:=q.num.natAbs.gcd p.den) (Nat.gcd_pos_of_pos_right _ p.den_pos) (Nat.gcd_dvd_left _ _)).2.1;rw[LN];generalize p.num/((p.num.natAbs.gcd q.den:Nat):Int)=x at*;generalize q.num/((q.num.natAbs.gcd p.den:Nat):Int)=y at*;rw[Ne,Int.natAbs_eq_zero,←h1,←h2];rcases Int.lt_trichotomy x 0 with hx|hx|hx <;> rcases Int.lt_trichotomy y 0 with hy|hy|hy
 all_goals first
  | (subst hx;simp)
  | (subst hy;simp)
  | skip
 ·have:=Int.mul_pos_of_neg_of_neg hx hy;simp[hx,hy];omega
 ·have:=Int.mul_neg_of_neg_of_pos hx hy;simp[hx];omega
 ·have:=Int.mul_neg_of_pos_of_neg hx hy;simp[hy];omega
 have:=Int.mul_pos hx hy;simp;omega
def dI (a:FrT):Rat:=mkRat a.num a.den.natAbs
theorem LG {a:FrT} (h:au a=true):(dI a).num=a.num∧(dI a).den=a.den.natAbs:=by
 unfold au at h;simp only[Bool.and_eq_true,decide_eq_true_eq,beq_iff_eq] at h;obtain⟨⟨⟨⟨h1,_⟩,_⟩,_⟩,h5⟩:=h;have hd:a.den.natAbs≠0:=by omega
 have hg:a.num.natAbs.gcd a.den.natAbs=1:=by omega
 unfold dI;rw[mkRat,dif_neg hd,Rat.normalize_eq];simp only[hg];exact⟨by simp,by simp⟩
theorem K8 {q:Rat} (h:bF q=true):au (fM q)=true:=by
 unfold bF at h;simp only[Bool.and_eq_true,decide_eq_true_eq] at h;have h1:=q.den_pos;have h2:q.num.natAbs.gcd q.den=1:=q.reduced;unfold au fM;simp only[Bool.and_eq_true,decide_eq_true_eq,beq_iff_eq,Int.natAbs_natCast,h2];omega
def eU (neg:Bool) (n d:Nat):Value:=if n≤1152921504606846976∧d≤1152921504606846976 then .tuple #[.agg #[.int .i64 (if neg=true then -(n:Int) else (n:Int)),.int .i64 (d:Int)],.int .i64 0] else .tuple #[.agg #[.int .i64 0,.int .i64 0],.int .i64 5]
theorem B6 {q:Rat} {n d:Nat} {neg:Bool} (hn:q.num.natAbs=n) (hd:q.den=d) (hs:q.num<0↔neg=true):dS q=eU neg n d:=by
 unfold dS eU;by_cases h:n≤1152921504606846976∧d≤1152921504606846976
 ·rw[if_pos h,if_pos (by unfold bF;rw[hn,hd];simpa using h),hd]
  have:q.num=if neg=true then -(n:Int) else (n:Int):=by
   by_cases hg:neg=true
   ·rw[if_pos hg];have:=hs.2 hg;omega
   rw[if_neg hg];have:¬q.num<0:=fun h=>hg (hs.1 h);omega
  rw[this]
 rw[if_neg h,if_neg];unfold bF;rw[hn,hd];simpa using h
theorem Vm {q:Rat} (h:¬(q.num.natAbs≤1152921504606846976∧q.den≤1152921504606846976)):dS q=.tuple #[.agg #[.int .i64 0,.int .i64 0],.int .i64 5]:=by
 unfold dS;rw[if_neg];unfold bF;simpa using h
theorem qv6 {a b:FrT} (ha:au a=true) (hb:au b=true) {n d:Nat} (hn:n=a.num.natAbs/(a.num.natAbs.gcd b.den.natAbs)*(b.num.natAbs/(b.num.natAbs.gcd a.den.natAbs))) (hd:d=a.den.natAbs/(b.num.natAbs.gcd a.den.natAbs)*(b.den.natAbs/(a.num.natAbs.gcd b.den.natAbs))) :
  (dI a*dI b).num.natAbs=n∧(dI a*dI b).den=d∧((dI a*dI b).num<0↔(decide (0<n)&&(decide (a.num<0) != decide (b.num<0)))=true):=by
 obtain⟨a1,a2⟩:=LG ha;obtain⟨b1,b2⟩:=LG hb;have h1:=Yi (dI a) (dI b);have h2:=Yg (dI a) (dI b);have h3:=Fw (dI a) (dI b);rw[a1,a2,b1,b2] at h1 h2;rw[h1,a1,b1] at h3;refine⟨h1.trans hn.symm,h2.trans hd.symm,?_⟩;rw[h3,←hn];simp only[Bool.and_eq_true,decide_eq_true_eq,bne_iff_ne,ne_eq];refine and_congr (by omega) ?_;by_cases x:a.num<0 <;> by_cases y:b.num<0 <;> simp[x,y]
theorem Er (neg:Bool) (n d:Nat) (w:World):Calls Tryz.prog 136 #[.bool neg,.int .u64 n,.int .u64 d] w fun e w'=>e=.returned (eU neg n d)∧Below w.heap.size w w':=by
 by_cases h1:n≤1152921504606846976;rotate_left
 ·have d1:decide ((1152921504606846976:Int)<(n:Int))=true:=yD (by omega);have d2:decide (1152921504606846976<n)=true:=yD (by omega);have HV:Y0 (eU neg n d=.tuple #[.agg #[.int .i64 0,.int .i64 0],.int .i64 5]):=by unfold Y0 eU;rw[if_neg (by omega)]
  clear h1;go_enter Tryz.func136,Tryz.ntmps136;go_wp2_with fail;obtain⟨z0,z1⟩:=(Blk.new w 29 #[.int .i64 0,.int .i64 0]).c2;refine YF (v:=.tuple #[.agg #[.int .i64 0,.int .i64 0],.int .i64 5]) (by simp[results,Tryz.results136,go_sem,z0,z1]) rfl ?_;exact⟨by rw[HV.o],(yB _ _).alloc (yA _) _⟩
 by_cases h2:d≤1152921504606846976;rotate_left
 ·have d1:decide ((1152921504606846976:Int)<(n:Int))=false:=yC (by omega);have d2:decide (1152921504606846976<n)=false:=yC (by omega);have d3:decide ((1152921504606846976:Int)<(d:Int))=true:=yD (by omega);have d4:decide (1152921504606846976<d)=true:=yD (by omega);have HV:Y0 (eU neg n d=.tuple #[.agg #[.int .i64 0,.int .i64 0],.int .i64 5]):=by unfold Y0 eU;rw[if_neg (by omega)]
  clear h1 h2;go_enter Tryz.func136,Tryz.ntmps136;go_wp2_with fail;obtain⟨z0,z1⟩:=(Blk.new w 29 #[.int .i64 0,.int .i64 0]).c2;refine YF (v:=.tuple #[.agg #[.int .i64 0,.int .i64 0],.int .i64 5]) (by simp[results,Tryz.results136,go_sem,z0,z1]) rfl ?_;exact⟨by rw[HV.o],(yB _ _).alloc (yA _) _⟩
 have d1:decide ((1152921504606846976:Int)<(n:Int))=false:=yC (by omega);have d2:decide (1152921504606846976<n)=false:=yC (by omega);have d3:decide ((1152921504606846976:Int)<(d:Int))=false:=yC (by omega);have d4:decide (1152921504606846976<d)=false:=yC (by omega);have w1:IntKind.i64.wrap (n:Int)=(n:Int):=yF _ (by omega);have w2:IntKind.i64.wrap (d:Int)=(d:Int):=yF _ (by omega);have w3:IntKind.i64.wrap (-(n:Int))=-(n:Int):=yF _ (by omega)
 have HV:Y0 (eU neg n d=.tuple #[.agg #[.int .i64 (if neg=true then -(n:Int) else (n:Int)),.int .i64 (d:Int)],.int .i64 0]):=by unfold Y0 eU;rw[if_pos ⟨h1,h2⟩]
 clear h1 h2;cases neg
 case true=>
  go_enter Tryz.func136,Tryz.ntmps136;go_wp2_with fail;obtain⟨z0,z1⟩:=(Blk.new w 29 #[.int .i64 (-(n:Int)),.int .i64 (d:Int)]).c2;refine YF (v:=.tuple #[.agg #[.int .i64 (-(n:Int)),.int .i64 (d:Int)],.int .i64 0]) (by simp[results,Tryz.results136,go_sem,z0,z1]) rfl ?_;exact⟨by rw[HV.o];rfl,(yB _ _).alloc (yA _) _⟩
 go_enter Tryz.func136,Tryz.ntmps136;go_wp2_with fail;obtain⟨z0,z1⟩:=(Blk.new w 29 #[.int .i64 (n:Int),.int .i64 (d:Int)]).c2;refine YF (v:=.tuple #[.agg #[.int .i64 (n:Int),.int .i64 (d:Int)],.int .i64 0]) (by simp[results,Tryz.results136,go_sem,z0,z1]) rfl ?_;exact⟨by rw[HV.o];rfl,(yB _ _).alloc (yA _) _⟩
theorem qv8 {q:Rat} {N D:Nat} {neg:Bool} (hD:0<D) (hq:q=mkRat (if neg=true then -(N:Int) else (N:Int)) D):dS q=eU neg (N/N.gcd D) (D/N.gcd D):=by
 by_cases h0:N=0
 ·subst h0;have e:(if neg=true then -((0:Nat):Int) else ((0:Nat):Int))=0:=by cases neg <;> rfl
  rw[e,Rat.zero_mkRat] at hq;rw[hq,Nat.gcd_zero_left,Nat.zero_div,Nat.div_self hD];cases neg <;> rfl
 have vK:D≠0:=by omega
 have hx:(if neg=true then -(N:Int) else (N:Int)).natAbs=N:=by cases neg <;> simp
 have hg:=oN (a:=if neg=true then -(N:Int) else (N:Int)) (g:=N.gcd D) (Nat.gcd_pos_of_pos_right _ hD) (by rw[hx];exact Nat.gcd_dvd_left _ _);rw[mkRat,dif_neg vK,Rat.normalize_eq] at hq;simp only[hx] at hq;rw[hx] at hg;refine B6 ?_ ?_ ?_
 ·rw[hq];exact hg.1
 ·rw[hq]
 rw[hq,hg.2.1];cases neg
 case true=>first|(simp;done)|(simp;omega)
 first|(simp;done)|(simp;omega)
theorem vzd (n:Int) (w:World):Calls Tryz.prog 96 #[.int .i64 n] w fun e w'=>e=.returned (.agg #[.int .i64 n,.int .i64 1])∧Below w.heap.size w w':=by
 obtain⟨z0,z1⟩:=(Blk.new w 29 #[.int .i64 n,.int .i64 1]).c2;go_enter Tryz.func96,Tryz.ntmps96;go_wp2_with fail;refine YF (v:=.agg #[.int .i64 n,.int .i64 1]) (by simp[results,Tryz.results96,go_sem,z0,z1]) rfl ?_;exact⟨rfl,(yB _ _).alloc (yA _) _⟩
theorem vqV (a b:FrT) (w:World) (ha:au a=true) (hb:au b=true) (eH:0≤b.num):Calls Tryz.prog 95 #[a.val,b.val] w fun e w'=>e=.returned (.int .i64 (iS a b))∧Below w.heap.size w w':=by
 have hC:=fun W=>qj9 a b W ha hb eH;have HB:=zh (((yB _ w).alloc (yA _) (.cells #[.int .i64 a.num,.int .i64 a.den] 29)).alloc (by simp) (.cells #[.int .i64 b.num,.int .i64 b.den] 29));clear ha hb eH;generalize iS a b=c at*;obtain⟨an,ad⟩:=a;obtain⟨bn,bd⟩:=b;simp only at*;go_enter Tryz.func95,Tryz.ntmps95;go_wp2_with (go_at_call 137;refine (hC _).mono ?_;rintro e w2 ⟨rfl,aU⟩);go_ret;exact⟨rfl,HB.o.trans (aU.mono HB.o.size)⟩
def fp (f:FrT):Int:=if au f=true then (if f.den≤f.num∧f.num≤100∧f.den≤100 then 0 else 2) else 1
theorem Ke (f:FrT) (w:World):Calls Tryz.prog 92 #[f.val] w fun e w'=>e=.returned (.int .i64 (fp f))∧Below w.heap.size w w':=by
 have hV:=fun W=>pw f W;have HD:=zh (Blk.new w 29 #[.int .i64 f.num,.int .i64 f.den]);have HB:=zh ((yB _ w).alloc (yA _) (.cells #[.int .i64 f.num,.int .i64 f.den] 29));rcases yL (au f) with h0|h0;rotate_left
 ·have HE:Y0 (fp f=1):=by unfold Y0 fp;rw[if_neg (by rw[h0];simp)]
  rw[h0] at hV;clear h0 HD;generalize fp f=fe at*;obtain⟨num,den⟩:=f;simp only at*;go_enter Tryz.func92,Tryz.ntmps92;go_wp2_with (go_at_call 42;refine (hV _).mono ?_;rintro e w2 ⟨rfl,aU⟩);go_ret;exact⟨eK HE.o.symm,HB.o.trans (aU.mono HB.o.size)⟩
 have HE:Y0 (fp f=if f.den≤f.num∧f.num≤100∧f.den≤100 then 0 else 2):=by unfold Y0 fp;rw[if_pos h0]
 rw[h0] at hV;clear h0;generalize fp f=fe at*;obtain⟨num,den⟩:=f;simp only at*;by_cases c1:num<den
 ·have e1:decide (num<den)=true:=yD c1;have iq:Y0 (fe=2):=by unfold Y0;rw[HE.o,if_neg (by omega)]
  clear c1 HE;go_enter Tryz.func92,Tryz.ntmps92;go_wp2_with (go_at_call 42;refine (hV _).mono ?_;rintro e w2 ⟨rfl,aU⟩;have cY:=HD.o.below aU HD.o.lt;have z0:=cY.cell 0;have z1:=cY.cell 1;simp only[aG,aH,aD] at z0 z1);go_ret;exact⟨eK iq.o.symm,HB.o.trans (aU.mono HB.o.size)⟩
 have e1:decide (num<den)=false:=yC c1;by_cases c2:100<num
 ·have e2:decide (100<num)=true:=yD c2;have iq:Y0 (fe=2):=by unfold Y0;rw[HE.o,if_neg (by omega)]
  clear c1 c2 HE;go_enter Tryz.func92,Tryz.ntmps92;go_wp2_with (go_at_call 42;refine (hV _).mono ?_;rintro e w2 ⟨rfl,aU⟩;have cY:=HD.o.below aU HD.o.lt;have z0:=cY.cell 0;have z1:=cY.cell 1;simp only[aG,aH,aD] at z0 z1);go_ret;exact⟨eK iq.o.symm,HB.o.trans (aU.mono HB.o.size)⟩
 have e2:decide (100<num)=false:=yC c2;by_cases c3:100<den
 ·exact absurd c3 (by omega)
 have e3:decide (100<den)=false:=yC c3;have iq:Y0 (fe=0):=by unfold Y0;rw[HE.o,if_pos (by omega)]
 clear c1 c2 c3 HE;go_enter Tryz.func92,Tryz.ntmps92;go_wp2_with (go_at_call 42;refine (hV _).mono ?_;rintro e w2 ⟨rfl,aU⟩;have cY:=HD.o.below aU HD.o.lt;have z0:=cY.cell 0;have z1:=cY.cell 1;simp only[aG,aH,aD] at z0 z1);go_ret;exact⟨eK iq.o.symm,HB.o.trans (aU.mono HB.o.size)⟩
theorem FZ {A D:Nat} (hD:0<D) (hA:A≤1152921504606846976) (FQ:D≤1152921504606846976):∃g p q:Nat,Nat.gcd A D=g∧A/g=p∧D/g=q∧0<g∧p≤1152921504606846976∧q≤1152921504606846976∧(A:Int).tdiv (g:Int)=(p:Int)∧(D:Int).tdiv (g:Int)=(q:Int):=by
 refine⟨_,_,_,rfl,rfl,rfl,Nat.gcd_pos_of_pos_right _ hD,yH (YK _ _) hA,yH (YK _ _) FQ,(Int.ofNat_tdiv _ _).symm,(Int.ofNat_tdiv _ _).symm⟩
theorem Qp {n:Int} {W:World} (h1 : -1152921504606846976≤n) (h2:n≤1152921504606846976) (w':World) (_:Below W.heap.size W w') :
  Calls Tryz.prog 90 #[.int .i64 n] w' fun e fV=>e=.returned (.int .u64 (n.natAbs:Nat))∧Below w'.heap.size w' fV :=
 (IA n w' h1 h2).mono fun _ _ ⟨he,hw⟩=>⟨he,hw▸yB _ _⟩
theorem wI (neg:Bool) (n d:Nat):∃x y z:Int,eU neg n d=.tuple #[.agg #[.int .i64 x,.int .i64 y],.int .i64 z]:=by
 unfold eU;split
 ·exact⟨_,_,_,rfl⟩
 exact⟨_,_,_,rfl⟩
theorem Ik {o w W:World} {B g6 g7:Nat} (hB:Below w.heap.size w W) (h6:B ≤ g6) (h7:B ≤ g7) (hw:w.heap.size ≤ B) (dL:g7 ≠ g6) (b6:Blk W g6 185 #[.int .u64 0,.int .u64 0]) (b7:Blk W g7 185 #[.int .u64 0,.int .u64 0])
  (x0 x1 y0 y1:Value) (hW:o=((((W.setCell ⟨g6,0,none⟩ x0).setCell ⟨g6,1,none⟩ x1).setCell ⟨g7,0,none⟩ y0).setCell ⟨g7,1,none⟩ y1)) :
  Below w.heap.size w o∧Blk o g6 185 #[x0,x1]∧Blk o g7 185 #[y0,y1]∧∀ {g:Nat} {t:TypeId} {c:Array Value},Blk W g t c→g<B→Blk o g t c:=by
 subst hW;exact⟨(((hB.setCell (by show w.heap.size≤g6;omega) _).setCell (by show w.heap.size≤g6;omega) _).setCell (by show w.heap.size≤g7;omega) _).setCell (by show w.heap.size≤g7;omega) _,
  (((b6.set_ 0 x0).set_ 1 x1).far (p:=⟨g7,0,none⟩) (Ne.symm dL) y0).far (p:=⟨g7,1,none⟩) (Ne.symm dL) y1,(((b7.far (p:=⟨g6,0,none⟩) dL x0).far (p:=⟨g6,1,none⟩) dL x1).set_ 0 y0).set_ 1 y1,
  fun {g _ _} hb hg=>(((hb.far (p:=⟨g6,0,none⟩) (show g≠g6 by omega) x0).far (p:=⟨g6,1,none⟩) (show g≠g6 by omega) x1).far (p:=⟨g7,0,none⟩) (show g≠g7 by omega) y0).far (p:=⟨g7,1,none⟩) (show g≠g7 by omega) y1⟩
theorem qj8 (a b:FrT) (w:World) (ha:au a=true) (hb:au b=true) :
  Calls Tryz.prog 94 #[a.val,b.val] w fun e w'=>e=.returned (dS (dI a*dI b))∧Below w.heap.size w w':=by
 have nJ:=fun W=>pw a W;have hvb:=fun W=>pw b W;rw[ha] at nJ;rw[hb] at hvb;obtain⟨a1,a2,a3,a4⟩:=ez ha;obtain⟨b1,b2,b3,b4⟩:=ez hb;have wa:IntKind.u64.wrap a.den=((a.den.natAbs:Nat):Int):=by show a.den%18446744073709551616=_;omega
 have wb:IntKind.u64.wrap b.den=((b.den.natAbs:Nat):Int):=by show b.den%18446744073709551616=_;omega
 have GD:=zh fun W=>Cd (n:=a.num) W a3 a4;have vZ:=zh fun W=>Cd (n:=b.num) W b3 b4;have HCa:=zh fun (W:World)=>HeldB.call (Qp (W:=W) a3 a4);have HCb:=zh fun (W:World)=>HeldB.call (Qp (W:=W) b3 b4);have hGo:=@qv6 a b ha hb;obtain⟨g,p1,q2,hg,D6,hq2,Hj,lp1,lq2,tp1,tq2⟩:=FZ (A:=a.num.natAbs) (D:=b.den.natAbs) (by omega) (by omega) (by omega);obtain⟨h,p2,q1,hh,Pv,hq1,hh0,lp2,lq1,tp2,tq1⟩:=FZ (A:=b.num.natAbs) (D:=a.den.natAbs) (by omega) (by omega) (by omega)
 rw[hg,hh,D6,hq2,Pv,hq1] at hGo;have Hz:=zh (hGo rfl rfl);have HGa:=zh fun (W:World)=>HeldB.callq (W:=W) fun w' _=>by have:=QC a.num.natAbs b.den.natAbs w' (by omega) (by omega);rw[hg] at this;exact this
 have HGb:=zh fun (W:World)=>HeldB.callq (W:=W) fun w' _=>by have:=QC b.num.natAbs a.den.natAbs w' (by omega) (by omega);rw[hh] at this;exact this
 have Wy:=zh fun W=>Cw (x:=p1) (y:=p2) W (by omega) (by omega);have Wx:=zh fun W=>Cw (x:=q1) (y:=q2) W (by omega) (by omega);have x1:IntKind.u64.wrap ((p1:Nat):Int)=((p1:Nat):Int):=by show (p1:Int)%18446744073709551616=_;omega
 have x2:IntKind.u64.wrap ((p2:Nat):Int)=((p2:Nat):Int):=by show (p2:Int)%18446744073709551616=_;omega
 have x3:IntKind.u64.wrap ((q1:Nat):Int)=((q1:Nat):Int):=by show (q1:Int)%18446744073709551616=_;omega
 have x4:IntKind.u64.wrap ((q2:Nat):Int)=((q2:Nat):Int):=by show (q2:Int)%18446744073709551616=_;omega
 have y1:((g:Int)==0)=false:=zb (by omega);have y2:((h:Int)==0)=false:=zb (by omega);have y3:¬(g:Int)=0:=by omega
 have y4:¬(h:Int)=0:=by omega
 have ds1:∃s1,decide (a.num<0)=s1:=⟨_,rfl⟩;have ds2:∃s2,decide (b.num<0)=s2:=⟨_,rfl⟩;obtain⟨s1,ds1⟩:=ds1;obtain⟨s2,ds2⟩:=ds2;rw[ds1,ds2] at Hz;clear ha hb a1 a2 a3 a4 b1 b2 b3 b4 hGo hg D6 hq2 Hj lp1 lq2 hh Pv hq1 hh0 lp2 lq1;have WN:=zh (@Vm (dI a*dI b));have HFs:=zh fun neg n d=>@B6 (dI a*dI b) n d neg;generalize dI a*dI b=P at*;obtain⟨an,ad⟩:=a;obtain⟨bn,bd⟩:=b;simp only at*;have D0:=((Blk.new w 29 #[.int .i64 an,.int .i64 ad]).alloc (.cells #[.int .i64 bn,.int .i64 bd] 29)).alloc (.cells #[.int .i64 0,.int .i64 0] 29)
 have D1:=(Blk.new (w.alloc (.cells #[.int .i64 an,.int .i64 ad] 29)) 29 #[.int .i64 bn,.int .i64 bd]).alloc (.cells #[.int .i64 0,.int .i64 0] 29);have D2:=Blk.new ((w.alloc (.cells #[.int .i64 an,.int .i64 ad] 29)).alloc (.cells #[.int .i64 bn,.int .i64 bd] 29)) 29 #[.int .i64 0,.int .i64 0];have hB:=(((yB _ w).alloc (yA _) (.cells #[.int .i64 an,.int .i64 ad] 29)).alloc (by simp) (.cells #[.int .i64 bn,.int .i64 bd] 29)).alloc (by simp;omega) (.cells #[.int .i64 0,.int .i64 0] 29)
 have hs:(((w.alloc (.cells #[.int .i64 an,.int .i64 ad] 29)).alloc (.cells #[.int .i64 bn,.int .i64 bd] 29)).alloc (.cells #[.int .i64 0,.int .i64 0] 29)).heap.size=w.heap.size+1+1+1:=by simp
 rw[show ((w.alloc (.cells #[.int .i64 an,.int .i64 ad] 29)).alloc (.cells #[.int .i64 bn,.int .i64 bd] 29)).heap.size=w.heap.size+1+1 by simp] at D2;rw[yZ] at D1;go_enter Tryz.func94,Tryz.ntmps94;go_wp2_with fail;generalize ((w.alloc (.cells #[.int .i64 an,.int .i64 ad] 29)).alloc (.cells #[.int .i64 bn,.int .i64 bd] 29)).alloc (.cells #[.int .i64 0,.int .i64 0] 29)=W1 at*;refine (nJ W1).mono ?_;rintro e w2 ⟨rfl,aU⟩
 have D0:=D0.below aU D0.lt;have D1:=D1.below aU D1.lt;have D2:=D2.below aU D2.lt;have hB:=hB.trans (aU.mono hB.size);have hs:w.heap.size+1+1<w2.heap.size:=by have:=aU.size;omega
 obtain⟨u0,u1⟩:=D1.c2;go_wp2_with fail;refine (hvb w2).mono ?_;rintro e w3 ⟨rfl,bM⟩;clear u0 u1 nJ hvb;have D0:=zh (D0.below bM D0.lt);have D1:=zh (D1.below bM D1.lt);have D2:=zh (D2.below bM D2.lt);have HB:=zh (hB.trans (bM.mono hB.size));have Hs:Y0 (w.heap.size+1+1<w3.heap.size):=by have:=bM.size;unfold Y0;omega
 clear aU bM hB hs;go_wp2_with (exact zX);have y0:=D0.o.cell 0;have Xy:=D0.o.cell 1;have Xx:=D1.o.cell 0;have y3':=D1.o.cell 1;simp only[aG,aH,aD] at y0 Xy Xx y3';have u0:=YL y0;have u1:=YL Xy;have u2:=YL Xx;have u3:=YL y3';have cSa:=HCa.o w3;have cSb:=HCb.o w3;have cGa:=HGa.o w3;have cGb:=HGb.o w3;clear y0 Xy Xx y3' HCa HCb HGa HGb;refine bB (by kernel_rfl) (by kernel_rfl) ?_
 repeat (go_big_quiet_step (first|(go_at_call 90;first|with_reducible exact cSa _|with_reducible exact cSb _)|(go_at_call 89;first|with_reducible exact cGa _|with_reducible exact cGb _)))
 refine YE ?_;rintro w4 ⟨⟨w4',bU⟩,rfl⟩;have D0:=zh (D0.o.below bU D0.o.lt);have D1:=zh (D1.o.below bU D1.o.lt);have D2:=zh (D2.o.below bU D2.o.lt);have HB:=zh (HB.o.trans (bU.mono HB.o.size));have Hs:Y0 (w.heap.size+1+1<w4.heap.size):=by have:=bU.size;have:=Hs.o;unfold Y0;omega
 clear bU u0 u1 u2 u3 cSa cSb cGa cGb;go_wp2_with (exact zX);have y0:=D0.o.cell 0;have Xy:=D0.o.cell 1;have Xx:=D1.o.cell 0;have y3':=D1.o.cell 1;simp only[aG,aH,aD] at y0 Xy Xx y3';have u0:=YL y0;have u1:=YL Xy;have u2:=YL Xx;have u3:=YL y3';clear y0 Xy Xx y3';refine dO 24 (fun jx=>if jx=2 then some (gV (.int .u64 (an.natAbs:Nat))) else if jx=7 then some (gV (.int .u64 (bn.natAbs:Nat))) else if jx=10 then some (gV (fq (p1*p2))) else if jx=21 then some (gV (fq (q1*q2))) else if jx=22 then some (gWd w4.heap.size) else if jx=23 then some (gWd w4.heap.size) else none) [8,9] (by kernel_rfl) (by kernel_rfl) (by kernel_rfl) (nS rfl rfl) ?_
 simp only[aM,aP,aN,aO];refine zw 2 ?_;simp only[aM,aP,aN,aO]
 repeat (go_big_quiet_step (fail))
 refine YE ?_;refine ae rfl rfl (fun w1 _ _=>zc (GD.o w1)) ?_;rintro _ rfl;simp only[Act.put,aC,aB,aA];refine zw 4 ?_;simp only[aM,aP,aN,aO]
 repeat (go_big_quiet_step (fail))
 refine YE ?_;refine ae rfl rfl (fun w1 _ _=>zc (vZ.o w1)) ?_;rintro _ rfl;simp only[Act.put,aC,aB,aA];refine zw 2 ?_;simp only[aM,aP,aN,aO]
 repeat (go_big_quiet_step (fail))
 refine YE ?_;refine ae rfl rfl (fun w1 _ _=>zc (Wy.o w1)) ?_;rintro _ rfl;simp only[Act.put,aC,aB,aA];refine zw 10 ?_;simp only[aM,aP,aN,aO]
 repeat (go_big_quiet_step (fail))
 refine YE ?_;refine ae rfl rfl (fun w1 _ _=>zc (Wx.o w1)) ?_;rintro _ rfl;simp only[Act.put,aC,aB,aA];refine aV rfl rfl (fun w1 ak _=>vN ak.size (by go_simp)) ?_;rintro _ ⟨g8,rfl⟩;simp only[Act.put,aC,aB,aA];refine aV rfl rfl (fun w1 ak _=>vN ak.size (by go_simp)) ?_;rintro _ ⟨g9,rfl⟩;simp only[Act.put,aC,aB,aA];refine Zc ?_;intro w8 aJ hF hA;have h6:zI w4.heap.size (.pointer (some ⟨g8,0,none⟩)) w8:=hF 8
 have h7:zI w4.heap.size (.pointer (some ⟨g9,0,none⟩)) w8:=hF 9;have K7:g9≠g8:=fun e=>(hA 8 (by simp) g8 rfl).2 9 (by simp) (by decide) (by rw[e];rfl);have D08:=D0.o.below aJ D0.o.lt;have D18:=D1.o.below aJ D1.o.lt;have D28:=D2.o.below aJ D2.o.lt;have B8:=HB.o.trans (aJ.mono HB.o.size);obtain⟨_,e6,l6,b6⟩:=h6;obtain⟨_,e7,l7,b7⟩:=h7;injection e6 with e6;injection e6 with e6;injection e6 with e6 _ _;injection e7 with e7
 injection e7 with e7;injection e7 with e7 _ _;subst e6 e7;have hs4:=Hs.o;unfold fq at*;generalize hn:p1*p2=n at*;generalize hd:q1*q2=d at*;clear hn hd;generalize cB:n/18446744073709551616=nh at*;generalize dc:n%18446744073709551616=nl at*;generalize nB:d/18446744073709551616=dh at*;generalize rS:d%18446744073709551616=dl at*;have HX:Y0 (n=18446744073709551616*nh+nl):=by unfold Y0;omega
 have HY:Y0 (d=18446744073709551616*dh+dl):=by unfold Y0;omega
 clear cB dc nB rS;obtain⟨B9,p6,p7,hk⟩:=Ik B8 l6 l7 (by omega) K7 b6 b7 (.int .u64 (nh:Int)) (.int .u64 (nl:Int)) (.int .u64 (dh:Int)) (.int .u64 (dl:Int)) rfl;have K0:=hk D08 (by omega);have K1:=hk D18 (by omega);have K2:=zh (hk D28 (by omega));have Z3:=b6.frozen 0;have Z2:=b6.frozen 1;have MK:=(b7.far (p:=⟨g8,0,none⟩) K7 (.int .u64 (nh:Int))).far (p:=⟨g8,1,none⟩) K7 (.int .u64 (nl:Int));have Wg:=MK.set_ 0 (.int .u64 (dh:Int))
 have f70:=MK.frozen 0;have f71:=Wg.frozen 1;have b70:=MK.cell 0;have Xm:=Wg.cell 1;have GU:=p6.cell 0;have GR:=p6.cell 1;have GQ:=p7.cell 0;have GN:=p7.cell 1;have XW:=K0.cell 0;have gL:=K1.cell 0;have b60:=b6.cell 0;have b61:=b6.cell 1;have iZ:=K2.o.cell 0;have f20:=K2.o.frozen 0;have K3:=K2.o.set_ 0 (.int .i64 0);have iz:=K3.cell 1;have f21:=K3.frozen 1;have K4:=K3.set_ 1 (.int .i64 0);have z0:=K4.cell 0
 have z1:=K4.cell 1;simp only[aC,aB,aA] at Xm iz z0 z1;simp only[aG,aH,aD] at GU GR GQ GN XW gL b60 b61 b70 Xm iZ iz z0 z1;have BZ:=zh ((B9.setCell (p:=⟨w.heap.size+1+1,0,none⟩) (by show w.heap.size≤w.heap.size+1+1;omega) (.int .i64 0)).setCell (p:=⟨w.heap.size+1+1,1,none⟩) (by show w.heap.size≤w.heap.size+1+1;omega) (.int .i64 0));have B9:=zh B9;clear MK Wg K3 K4 K0 K1 hk GD vZ Wy Wx K7 hs4 Hs l6 l7 b6 b7 p6 p7 B8 D08 D18 D28 hA hF aJ HB D0 D1 D2 u0 u1 u2 u3 x1 x2 x3 x4 tp1 tp2 tq1 tq2 y1 y2 y3 y4 wa wb
 by_cases c1:0<nh
 ·have d1:decide ((0:Int)<(nh:Int))=true:=yD (by omega);have d2:decide (0<nh)=true:=yD c1;have HV:Y0 (dS P=.tuple #[.agg #[.int .i64 0,.int .i64 0],.int .i64 5]):=WN.o (by obtain⟨e1,e2,-⟩:=Hz.o;have:=HX.o;have:=HY.o;omega);clear c1 Hz HFs WN HX HY;go_wp2_with fail;refine YF (v:=.tuple #[.agg #[.int .i64 0,.int .i64 0],.int .i64 5]) (by simp[results,Tryz.results94,go_sem,z0,z1]) rfl ?_;exact⟨by rw[HV.o],BZ.o⟩
 have d1:decide ((0:Int)<(nh:Int))=false:=yC (by omega);have d2:decide (0<nh)=false:=yC c1;have n0:nh=0:=by omega
 have N0:=zh n0;clear n0 c1;by_cases c1:0<dh
 ·have d3:decide ((0:Int)<(dh:Int))=true:=yD (by omega);have d4:decide (0<dh)=true:=yD c1;have HV:Y0 (dS P=.tuple #[.agg #[.int .i64 0,.int .i64 0],.int .i64 5]):=WN.o (by obtain⟨e1,e2,-⟩:=Hz.o;have:=HX.o;have:=HY.o;omega);clear c1 Hz HFs WN HX HY;go_wp2_with fail;refine YF (v:=.tuple #[.agg #[.int .i64 0,.int .i64 0],.int .i64 5]) (by simp[results,Tryz.results94,go_sem,z0,z1]) rfl ?_;exact⟨by rw[HV.o],BZ.o⟩
 have d3:decide ((0:Int)<(dh:Int))=false:=yC (by omega);have d4:decide (0<dh)=false:=yC c1;have hm0:dh=0:=by omega
 have kF:Y0 (n=nl):=by have:=HX.o;have:=N0.o;unfold Y0;omega
 have rh:Y0 (d=dl):=by have:=HY.o;unfold Y0;omega
 rw[kF.o,rh.o] at Hz;clear c1 hm0 HX HY N0 kF rh WN BZ z0 z1 iz f21 iZ f20;by_cases c1:0<nl
 ·have d5:decide ((0:Int)<(nl:Int))=true:=yD (by omega);have d6:decide (0<nl)=true:=yD c1;rw[d6,Bool.true_and] at Hz;have HV:=zh (HFs.o (!(s1==s2)) nl dl Hz.o.1 Hz.o.2.1 Hz.o.2.2);obtain⟨fx,fy,fz,hf⟩:=wI (!(s1==s2)) nl dl;have Ut:=fun W=>Er (!(s1==s2)) nl dl W;rw[hf] at HV Ut;clear hf Hz HFs c1;go_wp2_with fail;refine (Ut _).mono ?_;rintro e w9 ⟨rfl,jz⟩;have L2:=K2.o.below jz K2.o.lt;have nG:=B9.o.trans (jz.mono B9.o.size)
  have r0:=L2.cell 0;have g0:=L2.frozen 0;have L3:=L2.set_ 0 (.int .i64 fx);have r1:=L3.cell 1;have g1:=L3.frozen 1;have L4:=L3.set_ 1 (.int .i64 fy);have z0:=L4.cell 0;have z1:=L4.cell 1;simp only[aC,aB,aA] at r1 z0 z1;simp only[aG,aH,aD] at r0 r1 z0 z1;have BZ:=zh ((nG.setCell (p:=⟨w.heap.size+1+1,0,none⟩) (by show w.heap.size≤w.heap.size+1+1;omega) (.int .i64 fx)).setCell (p:=⟨w.heap.size+1+1,1,none⟩) (by show w.heap.size≤w.heap.size+1+1;omega) (.int .i64 fy))
  clear L2 L3 L4 nG jz K2 B9 Ut;go_wp2_with fail;refine YF (v:=.tuple #[.agg #[.int .i64 fx,.int .i64 fy],.int .i64 fz]) (by simp[results,Tryz.results94,go_sem,z0,z1]) rfl ?_;exact⟨by rw[HV.o],BZ.o⟩
 have d5:decide ((0:Int)<(nl:Int))=false:=yC (by omega);have d6:decide (0<nl)=false:=yC c1;rw[d6,Bool.false_and] at Hz;have HV:=zh (HFs.o false nl dl Hz.o.1 Hz.o.2.1 Hz.o.2.2);obtain⟨fx,fy,fz,hf⟩:=wI false nl dl;have Ut:=fun W=>Er false nl dl W;rw[hf] at HV Ut;clear hf Hz HFs c1;go_wp2_with fail;refine (Ut _).mono ?_;rintro e w9 ⟨rfl,jz⟩;have L2:=K2.o.below jz K2.o.lt;have nG:=B9.o.trans (jz.mono B9.o.size)
 have r0:=L2.cell 0;have g0:=L2.frozen 0;have L3:=L2.set_ 0 (.int .i64 fx);have r1:=L3.cell 1;have g1:=L3.frozen 1;have L4:=L3.set_ 1 (.int .i64 fy);have z0:=L4.cell 0;have z1:=L4.cell 1;simp only[aC,aB,aA] at r1 z0 z1;simp only[aG,aH,aD] at r0 r1 z0 z1;have BZ:=zh ((nG.setCell (p:=⟨w.heap.size+1+1,0,none⟩) (by show w.heap.size≤w.heap.size+1+1;omega) (.int .i64 fx)).setCell (p:=⟨w.heap.size+1+1,1,none⟩) (by show w.heap.size≤w.heap.size+1+1;omega) (.int .i64 fy))
 clear L2 L3 L4 nG jz K2 B9 Ut;go_wp2_with fail;refine YF (v:=.tuple #[.agg #[.int .i64 fx,.int .i64 fy],.int .i64 fz]) (by simp[results,Tryz.results94,go_sem,z0,z1]) rfl ?_;exact⟨by rw[HV.o],BZ.o⟩
theorem yj (q:Rat):∃x y z:Int,dS q=.tuple #[.agg #[.int .i64 x,.int .i64 y],.int .i64 z]:=by
 unfold dS;split
 ·exact⟨_,_,_,rfl⟩
 exact⟨_,_,_,rfl⟩
