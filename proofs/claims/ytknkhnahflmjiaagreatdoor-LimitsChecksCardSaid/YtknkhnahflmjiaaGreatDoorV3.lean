/- Lemmas. -/
import Derived.Test.YtknkhnahflmjiaaGreatDoorV1
import Derived.Test.YtknkhnahflmjiaaGreatDoorV2
namespace Go.Proofs.YtknkhnahflmjiaaGreatDoor
set_option maxRecDepth 100000
set_option maxHeartbeats 40000000
theorem qx9 (A n:Nat):A/2^n=2*(A/2^(n+1))+A/2^n%2:=by
 rw[yW,←YB];omega
theorem Lz {A b n q r:Nat} (hb:0<b) (hr:A/2^(n+1)%b=r) (hq:A/2^(n+1)/b=q) :
  (A/2^n%b=if b≤2*r+A/2^n%2 then 2*r+A/2^n%2-b else 2*r+A/2^n%2)∧(A/2^n/b=if b≤2*r+A/2^n%2 then 2*q+1 else 2*q):=by
 have hd:=YI (A/2^(n+1)) b;rw[hr,hq] at hd;have hrb:r<b:=by rw[←hr];exact YJ _ hb
 have hA:=qx9 A n;have ht:A/2^n%2<2:=YJ _ (by decide);generalize A/2^n%2=t at*;have e:A/2^n=b*(2*q)+(2*r+t):=by
  rw[hA,←hd,yX,Nat.mul_left_comm];omega
 by_cases h:b≤2*r+t
 ·rw[if_pos h,if_pos h];have e2:A/2^n=b*(2*q+1)+(2*r+t-b):=by
   rw[e,yX,Nat.mul_one];omega
  have aI:2*r+t-b<b:=by omega
  rw[e2];exact⟨by rw[Nat.mul_add_mod,Nat.mod_eq_of_lt aI],by rw[Nat.mul_add_div hb,Nat.div_eq_of_lt aI,Nat.add_zero]⟩
 rw[if_neg h,if_neg h];have aI:2*r+t<b:=by omega
 rw[e];exact⟨by rw[Nat.mul_add_mod,Nat.mod_eq_of_lt aI],by rw[Nat.mul_add_div hb,Nat.div_eq_of_lt aI,Nat.add_zero]⟩
theorem TX {A i n:Nat} (h:i+n=127):A*2^i%2^128/2^127=A/2^n%2:=by
 have e1:(2:Nat)^128=2^i*(2^n*2):=by rw[←yW,←Nat.pow_add,show i+(n+1)=128 by omega]
 have e2:(2:Nat)^127=2^i*2^n:=by rw[←Nat.pow_add,h]
 rw[Nat.mul_comm A,e1,e2,Nat.mul_mod_mul_left,Nat.mul_div_mul_left _ _ (Nat.two_pow_pos i),Nat.mod_mul_right_div_self]
theorem Ik {A b:Nat} (hA:A<2^128):A/2^128%b=0∧A/2^128/b=0:=by
 rw[Nat.div_eq_of_lt hA];exact⟨Nat.zero_mod _,Nat.zero_div _⟩
theorem Si (A b:Nat):A/2^0%b=A%b∧A/2^0/b=A/b:=by
 rw[Nat.pow_zero,Nat.div_one];exact⟨rfl,rfl⟩
theorem QH {x y:Nat}:x<y↔x/18446744073709551616<y/18446744073709551616∨(x/18446744073709551616=y/18446744073709551616∧x%18446744073709551616<y%18446744073709551616):=by omega
theorem Qq (x y:Nat):(x+y)%18446744073709551616=(x%18446744073709551616+y%18446744073709551616)%18446744073709551616 ∧
  (x+y)/18446744073709551616=x/18446744073709551616+y/18446744073709551616+if (x%18446744073709551616+y%18446744073709551616)%18446744073709551616<x%18446744073709551616 then 1 else 0:=by
 split <;> omega
theorem KO {x y:Nat} (h:y≤x):(x-y)%18446744073709551616=(x%18446744073709551616+18446744073709551616-y%18446744073709551616)%18446744073709551616 ∧
  y/18446744073709551616+(if x%18446744073709551616<y%18446744073709551616 then 1 else 0)≤x/18446744073709551616 ∧
  (x-y)/18446744073709551616=x/18446744073709551616-y/18446744073709551616-if x%18446744073709551616<y%18446744073709551616 then 1 else 0:=by
 split <;> omega
theorem Rt (x:Nat):x/2/18446744073709551616=x/18446744073709551616/2∧x/2%18446744073709551616=x%18446744073709551616/2+x/18446744073709551616%2*9223372036854775808:=by omega
theorem Kn {x t:Nat} (ht:t<2):(2*x+t)%340282366920938463463374607431768211456/18446744073709551616=(x/18446744073709551616*2+x%18446744073709551616/9223372036854775808)%18446744073709551616 ∧
  (2*x+t)%340282366920938463463374607431768211456%18446744073709551616=x%18446744073709551616*2%18446744073709551616+t:=by omega
theorem x9 {x:Nat} (h:x<340282366920938463463374607431768211456):x/18446744073709551616<18446744073709551616∧x%18446744073709551616<18446744073709551616∧x=x/18446744073709551616*18446744073709551616+x%18446744073709551616:=by omega
open Go.RowKit Go.Shelf
theorem Dj {A D:Nat} (hD:0<D) (hA:A≤1152921504606846976) (ye:D≤1152921504606846976):∃g p q:Nat,Nat.gcd A D=g∧A/g=p∧D/g=q∧0<g∧p≤1152921504606846976∧q≤1152921504606846976∧(A:Int).tdiv (g:Int)=(p:Int)∧(D:Int).tdiv (g:Int)=(q:Int):=by
 refine⟨_,_,_,rfl,rfl,rfl,Nat.gcd_pos_of_pos_right _ hD,yH (YK _ _) hA,yH (YK _ _) ye,(Int.ofNat_tdiv _ _).symm,(Int.ofNat_tdiv _ _).symm⟩
theorem MZ {n:Int} {W:World} (h1 : -1152921504606846976≤n) (h2:n≤1152921504606846976) (w':World) (_:Below W.heap.size W w') :
  Calls Tryz.prog 55 #[.int .i64 n] w' fun e kS=>e=.returned (.int .u64 (n.natAbs:Nat))∧Below w'.heap.size w' kS :=
 (Fh n w' h1 h2).mono fun _ _ ⟨he,hw⟩=>⟨he,hw▸yB _ _⟩
theorem pA (neg:Bool) (n d:Nat):∃x y z:Int,eK neg n d=.tuple #[.agg #[.int .i64 x,.int .i64 y],.int .i64 z]:=by
 unfold eK;split
 ·exact⟨_,_,_,rfl⟩
 exact⟨_,_,_,rfl⟩
theorem uB {o w W:World} {B g6 g7:Nat} (hB:Below w.heap.size w W) (h6:B ≤ g6) (h7:B ≤ g7) (hw:w.heap.size ≤ B) (fS:g7 ≠ g6) (b6:Blk W g6 89 #[.int .u64 0,.int .u64 0]) (b7:Blk W g7 89 #[.int .u64 0,.int .u64 0])
  (x0 x1 y0 y1:Value) (hW:o=((((W.setCell ⟨g6,0,none⟩ x0).setCell ⟨g6,1,none⟩ x1).setCell ⟨g7,0,none⟩ y0).setCell ⟨g7,1,none⟩ y1)) :
  Below w.heap.size w o∧Blk o g6 89 #[x0,x1]∧Blk o g7 89 #[y0,y1]∧∀ {g:Nat} {t:TypeId} {c:Array Value},Blk W g t c→g<B→Blk o g t c:=by
 subst hW;exact⟨(((hB.setCell (by show w.heap.size≤g6;omega) _).setCell (by show w.heap.size≤g6;omega) _).setCell (by show w.heap.size≤g7;omega) _).setCell (by show w.heap.size≤g7;omega) _,
  (((b6.set_ 0 x0).set_ 1 x1).far (p:=⟨g7,0,none⟩) (Ne.symm fS) y0).far (p:=⟨g7,1,none⟩) (Ne.symm fS) y1,(((b7.far (p:=⟨g6,0,none⟩) fS x0).far (p:=⟨g6,1,none⟩) fS x1).set_ 0 y0).set_ 1 y1,
  fun {g _ _} hb hg=>(((hb.far (p:=⟨g6,0,none⟩) (show g≠g6 by omega) x0).far (p:=⟨g6,1,none⟩) (show g≠g6 by omega) x1).far (p:=⟨g7,0,none⟩) (show g≠g7 by omega) y0).far (p:=⟨g7,1,none⟩) (show g≠g7 by omega) y1⟩
theorem Wo (a b:FrT) (w:World) (ha:aj a=true) (hb:aj b=true) :
  Calls Tryz.prog 14 #[a.val,b.val] w fun e w'=>e=.returned (bQ (aU a*aU b))∧Below w.heap.size w w':=by
 have jA:=fun W=>gi a W;have Aa:=fun W=>gi b W;rw[ha] at jA;rw[hb] at Aa;obtain⟨a1,a2,a3,a4⟩:=bB ha;obtain⟨b1,b2,b3,b4⟩:=bB hb;have wa:IntKind.u64.wrap a.den=((a.den.natAbs:Nat):Int):=by show a.den%18446744073709551616=_;omega
 have wb:IntKind.u64.wrap b.den=((b.den.natAbs:Nat):Int):=by show b.den%18446744073709551616=_;omega
 have zl:=zh fun W=>rQ (n:=a.num) W a3 a4;have Bl:=zh fun W=>rQ (n:=b.num) W b3 b4;have HCa:=zh fun (W:World)=>HeldB.call (MZ (W:=W) a3 a4);have HCb:=zh fun (W:World)=>HeldB.call (MZ (W:=W) b3 b4);have XD:=@qx2 a b ha hb;obtain⟨g,p1,q2,hg,Lc,U9,pc,lp1,lq2,tp1,tq2⟩:=Dj (A:=a.num.natAbs) (D:=b.den.natAbs) (by omega) (by omega) (by omega);obtain⟨h,p2,q1,hh,Mn,hq1,hh0,lp2,lq1,tp2,tq1⟩:=Dj (A:=b.num.natAbs) (D:=a.den.natAbs) (by omega) (by omega) (by omega)
 rw[hg,hh,Lc,U9,Mn,hq1] at XD;have AW:=zh (XD rfl rfl);have HGa:=zh fun (W:World)=>HeldB.callq (W:=W) fun w' _=>by have:=BR a.num.natAbs b.den.natAbs w' (by omega) (by omega);rw[hg] at this;exact this
 have HGb:=zh fun (W:World)=>HeldB.callq (W:=W) fun w' _=>by have:=BR b.num.natAbs a.den.natAbs w' (by omega) (by omega);rw[hh] at this;exact this
 have Bn:=zh fun W=>pQ (x:=p1) (y:=p2) W (by omega) (by omega);have Bm:=zh fun W=>pQ (x:=q1) (y:=q2) W (by omega) (by omega);have x1:IntKind.u64.wrap ((p1:Nat):Int)=((p1:Nat):Int):=by show (p1:Int)%18446744073709551616=_;omega
 have x2:IntKind.u64.wrap ((p2:Nat):Int)=((p2:Nat):Int):=by show (p2:Int)%18446744073709551616=_;omega
 have x3:IntKind.u64.wrap ((q1:Nat):Int)=((q1:Nat):Int):=by show (q1:Int)%18446744073709551616=_;omega
 have x4:IntKind.u64.wrap ((q2:Nat):Int)=((q2:Nat):Int):=by show (q2:Int)%18446744073709551616=_;omega
 have y1:((g:Int)==0)=false:=zb (by omega);have y2:((h:Int)==0)=false:=zb (by omega);have y3:¬(g:Int)=0:=by omega
 have y4:¬(h:Int)=0:=by omega
 have E0:∃s1,decide (a.num<0)=s1:=⟨_,rfl⟩;have Ij:∃s2,decide (b.num<0)=s2:=⟨_,rfl⟩;obtain⟨s1,E0⟩:=E0;obtain⟨s2,Ij⟩:=Ij;rw[E0,Ij] at AW;clear ha hb a1 a2 a3 a4 b1 b2 b3 b4 XD hg Lc U9 pc lp1 lq2 hh Mn hq1 hh0 lp2 lq1;have tN:=zh (@Dn (aU a*aU b));have Ek:=zh fun neg n d=>@sB (aU a*aU b) n d neg;generalize aU a*aU b=P at*;obtain⟨an,ad⟩:=a;obtain⟨bn,bd⟩:=b;simp only at*;have D0:=((Blk.new w 23 #[.int .i64 an,.int .i64 ad]).alloc (.cells #[.int .i64 bn,.int .i64 bd] 23)).alloc (.cells #[.int .i64 0,.int .i64 0] 23)
 have D1:=(Blk.new (w.alloc (.cells #[.int .i64 an,.int .i64 ad] 23)) 23 #[.int .i64 bn,.int .i64 bd]).alloc (.cells #[.int .i64 0,.int .i64 0] 23);have D2:=Blk.new ((w.alloc (.cells #[.int .i64 an,.int .i64 ad] 23)).alloc (.cells #[.int .i64 bn,.int .i64 bd] 23)) 23 #[.int .i64 0,.int .i64 0];have hB:=(((yB _ w).alloc (yA _) (.cells #[.int .i64 an,.int .i64 ad] 23)).alloc (by simp) (.cells #[.int .i64 bn,.int .i64 bd] 23)).alloc (by simp;omega) (.cells #[.int .i64 0,.int .i64 0] 23)
 have hs:(((w.alloc (.cells #[.int .i64 an,.int .i64 ad] 23)).alloc (.cells #[.int .i64 bn,.int .i64 bd] 23)).alloc (.cells #[.int .i64 0,.int .i64 0] 23)).heap.size=w.heap.size+1+1+1:=by simp
 rw[show ((w.alloc (.cells #[.int .i64 an,.int .i64 ad] 23)).alloc (.cells #[.int .i64 bn,.int .i64 bd] 23)).heap.size=w.heap.size+1+1 by simp] at D2;rw[yZ] at D1;go_enter Tryz.func14,Tryz.ntmps14;go_wp2_with fail;generalize ((w.alloc (.cells #[.int .i64 an,.int .i64 ad] 23)).alloc (.cells #[.int .i64 bn,.int .i64 bd] 23)).alloc (.cells #[.int .i64 0,.int .i64 0] 23)=W1 at*;refine (jA W1).mono ?_;rintro e w2 ⟨rfl,bg⟩
 have D0:=D0.below bg D0.lt;have D1:=D1.below bg D1.lt;have D2:=D2.below bg D2.lt;have hB:=hB.trans (bg.mono hB.size);have hs:w.heap.size+1+1<w2.heap.size:=by have:=bg.size;omega
 obtain⟨u0,u1⟩:=D1.c2;go_wp2_with fail;refine (Aa w2).mono ?_;rintro e w3 ⟨rfl,bZ⟩;clear u0 u1 jA Aa;have D0:=zh (D0.below bZ D0.lt);have D1:=zh (D1.below bZ D1.lt);have D2:=zh (D2.below bZ D2.lt);have HB:=zh (hB.trans (bZ.mono hB.size));have Hs:Y0 (w.heap.size+1+1<w3.heap.size):=by have:=bZ.size;unfold Y0;omega
 clear bg bZ hB hs;go_wp2_with (exact zX);have y0:=D0.o.cell 0;have Bu:=D0.o.cell 1;have Kf:=D1.o.cell 0;have E7:=D1.o.cell 1;simp only[aB,aD,aA] at y0 Bu Kf E7;have u0:=YL y0;have u1:=YL Bu;have u2:=YL Kf;have u3:=YL E7;have cSa:=HCa.o w3;have cSb:=HCb.o w3;have cGa:=HGa.o w3;have cGb:=HGb.o w3;clear y0 Bu Kf E7 HCa HCb HGa HGb;refine bJ (by kernel_rfl) (by kernel_rfl) ?_
 repeat (go_big_quiet_step (first|(go_at_call 55;first|with_reducible exact cSa _|with_reducible exact cSb _)|(go_at_call 54;first|with_reducible exact cGa _|with_reducible exact cGb _)))
 refine YE ?_;rintro w4 ⟨⟨w4',bP⟩,rfl⟩;have D0:=zh (D0.o.below bP D0.o.lt);have D1:=zh (D1.o.below bP D1.o.lt);have D2:=zh (D2.o.below bP D2.o.lt);have HB:=zh (HB.o.trans (bP.mono HB.o.size));have Hs:Y0 (w.heap.size+1+1<w4.heap.size):=by have:=bP.size;have:=Hs.o;unfold Y0;omega
 clear bP u0 u1 u2 u3 cSa cSb cGa cGb;go_wp2_with (exact zX);have y0:=D0.o.cell 0;have Bu:=D0.o.cell 1;have Kf:=D1.o.cell 0;have E7:=D1.o.cell 1;simp only[aB,aD,aA] at y0 Bu Kf E7;have u0:=YL y0;have u1:=YL Bu;have u2:=YL Kf;have u3:=YL E7;clear y0 Bu Kf E7;refine dt 24 (fun jx=>if jx=2 then some (gV (.int .u64 (an.natAbs:Nat))) else if jx=7 then some (gV (.int .u64 (bn.natAbs:Nat))) else if jx=10 then some (gV (cF (p1*p2))) else if jx=21 then some (gV (cF (q1*q2))) else if jx=22 then some (XJ w4.heap.size) else if jx=23 then some (XJ w4.heap.size) else none) [8,9] (by kernel_rfl) (by kernel_rfl) (by kernel_rfl) (kV rfl rfl) ?_
 simp only[aO,aR,aP,aQ];refine zw 2 ?_;simp only[aO,aR,aP,aQ]
 repeat (go_big_quiet_step (fail))
 refine YE ?_;refine ae rfl rfl (fun w1 _ _=>zc (zl.o w1)) ?_;rintro _ rfl;simp only[Act.put,aw,av,au];refine zw 4 ?_;simp only[aO,aR,aP,aQ]
 repeat (go_big_quiet_step (fail))
 refine YE ?_;refine ae rfl rfl (fun w1 _ _=>zc (Bl.o w1)) ?_;rintro _ rfl;simp only[Act.put,aw,av,au];refine zw 2 ?_;simp only[aO,aR,aP,aQ]
 repeat (go_big_quiet_step (fail))
 refine YE ?_;refine ae rfl rfl (fun w1 _ _=>zc (Bn.o w1)) ?_;rintro _ rfl;simp only[Act.put,aw,av,au];refine zw 10 ?_;simp only[aO,aR,aP,aQ]
 repeat (go_big_quiet_step (fail))
 refine YE ?_;refine ae rfl rfl (fun w1 _ _=>zc (Bm.o w1)) ?_;rintro _ rfl;simp only[Act.put,aw,av,au];refine aX rfl rfl (fun w1 ak _=>mB ak.size (by go_simp)) ?_;rintro _ ⟨g8,rfl⟩;simp only[Act.put,aw,av,au];refine aX rfl rfl (fun w1 ak _=>mB ak.size (by go_simp)) ?_;rintro _ ⟨g9,rfl⟩;simp only[Act.put,aw,av,au];refine Zc ?_;intro w8 aT hF hA;have h6:oy w4.heap.size (.pointer (some ⟨g8,0,none⟩)) w8:=hF 8
 have h7:oy w4.heap.size (.pointer (some ⟨g9,0,none⟩)) w8:=hF 9;have yf:g9≠g8:=fun e=>(hA 8 (by simp) g8 rfl).2 9 (by simp) (by decide) (by rw[e];rfl);have Ts:=D0.o.below aT D0.o.lt;have Tr:=D1.o.below aT D1.o.lt;have D28:=D2.o.below aT D2.o.lt;have B8:=HB.o.trans (aT.mono HB.o.size);obtain⟨_,e6,l6,b6⟩:=h6;obtain⟨_,e7,l7,b7⟩:=h7;injection e6 with e6;injection e6 with e6;injection e6 with e6 _ _;injection e7 with e7
 injection e7 with e7;injection e7 with e7 _ _;subst e6 e7;have hs4:=Hs.o;unfold cF at*;generalize hn:p1*p2=n at*;generalize hd:q1*q2=d at*;clear hn hd;generalize cG:n/18446744073709551616=nh at*;generalize dc:n%18446744073709551616=nl at*;generalize nJ:d/18446744073709551616=dh at*;generalize tD:d%18446744073709551616=dl at*;have HX:Y0 (n=18446744073709551616*nh+nl):=by unfold Y0;omega
 have HY:Y0 (d=18446744073709551616*dh+dl):=by unfold Y0;omega
 clear cG dc nJ tD;obtain⟨B9,p6,p7,hk⟩:=uB B8 l6 l7 (by omega) yf b6 b7 (.int .u64 (nh:Int)) (.int .u64 (nl:Int)) (.int .u64 (dh:Int)) (.int .u64 (dl:Int)) rfl;have K0:=hk Ts (by omega);have K1:=hk Tr (by omega);have K2:=zh (hk D28 (by omega));have Du:=b6.frozen 0;have Dt:=b6.frozen 1;have AI:=(b7.far (p:=⟨g8,0,none⟩) yf (.int .u64 (nh:Int))).far (p:=⟨g8,1,none⟩) yf (.int .u64 (nl:Int));have zf:=AI.set_ 0 (.int .u64 (dh:Int))
 have TF:=AI.frozen 0;have TE:=zf.frozen 1;have LL:=AI.cell 0;have DY:=zf.cell 1;have Ev:=p6.cell 0;have Eu:=p6.cell 1;have Et:=p7.cell 0;have Es:=p7.cell 1;have Uq:=K0.cell 0;have gT:=K1.cell 0;have TH:=b6.cell 0;have SG:=b6.cell 1;have jb:=K2.o.cell 0;have f20:=K2.o.frozen 0;have K3:=K2.o.set_ 0 (.int .i64 0);have iJ:=K3.cell 1;have f21:=K3.frozen 1;have K4:=K3.set_ 1 (.int .i64 0);have z0:=K4.cell 0
 have z1:=K4.cell 1;simp only[aw,av,au] at DY iJ z0 z1;simp only[aB,aD,aA] at Ev Eu Et Es Uq gT TH SG LL DY jb iJ z0 z1;have BZ:=zh ((B9.setCell (p:=⟨w.heap.size+1+1,0,none⟩) (by show w.heap.size≤w.heap.size+1+1;omega) (.int .i64 0)).setCell (p:=⟨w.heap.size+1+1,1,none⟩) (by show w.heap.size≤w.heap.size+1+1;omega) (.int .i64 0));have B9:=zh B9;clear AI zf K3 K4 K0 K1 hk zl Bl Bn Bm yf hs4 Hs l6 l7 b6 b7 p6 p7 B8 Ts Tr D28 hA hF aT HB D0 D1 D2 u0 u1 u2 u3 x1 x2 x3 x4 tp1 tp2 tq1 tq2 y1 y2 y3 y4 wa wb
 by_cases c1:0<nh
 ·have d1:decide ((0:Int)<(nh:Int))=true:=yD (by omega);have d2:decide (0<nh)=true:=yD c1;have HV:Y0 (bQ P=.tuple #[.agg #[.int .i64 0,.int .i64 0],.int .i64 5]):=tN.o (by obtain⟨e1,e2,-⟩:=AW.o;have:=HX.o;have:=HY.o;omega);clear c1 AW Ek tN HX HY;go_wp2_with fail;refine YF (v:=.tuple #[.agg #[.int .i64 0,.int .i64 0],.int .i64 5]) (by simp[results,Tryz.results14,go_sem,z0,z1]) rfl ?_;exact⟨by rw[HV.o],BZ.o⟩
 have d1:decide ((0:Int)<(nh:Int))=false:=yC (by omega);have d2:decide (0<nh)=false:=yC c1;have n0:nh=0:=by omega
 have N0:=zh n0;clear n0 c1;by_cases c1:0<dh
 ·have d3:decide ((0:Int)<(dh:Int))=true:=yD (by omega);have d4:decide (0<dh)=true:=yD c1;have HV:Y0 (bQ P=.tuple #[.agg #[.int .i64 0,.int .i64 0],.int .i64 5]):=tN.o (by obtain⟨e1,e2,-⟩:=AW.o;have:=HX.o;have:=HY.o;omega);clear c1 AW Ek tN HX HY;go_wp2_with fail;refine YF (v:=.tuple #[.agg #[.int .i64 0,.int .i64 0],.int .i64 5]) (by simp[results,Tryz.results14,go_sem,z0,z1]) rfl ?_;exact⟨by rw[HV.o],BZ.o⟩
 have d3:decide ((0:Int)<(dh:Int))=false:=yC (by omega);have d4:decide (0<dh)=false:=yC c1;have Jt:dh=0:=by omega
 have kl:Y0 (n=nl):=by have:=HX.o;have:=N0.o;unfold Y0;omega
 have qp:Y0 (d=dl):=by have:=HY.o;unfold Y0;omega
 rw[kl.o,qp.o] at AW;clear c1 Jt HX HY N0 kl qp tN BZ z0 z1 iJ f21 jb f20;by_cases c1:0<nl
 ·have d5:decide ((0:Int)<(nl:Int))=true:=yD (by omega);have d6:decide (0<nl)=true:=yD c1;rw[d6,Bool.true_and] at AW;have HV:=zh (Ek.o (!(s1==s2)) nl dl AW.o.1 AW.o.2.1 AW.o.2.2);obtain⟨fx,fy,fz,hf⟩:=pA (!(s1==s2)) nl dl;have Js:=fun W=>uO (!(s1==s2)) nl dl W;rw[hf] at HV Js;clear hf AW Ek c1;go_wp2_with fail;refine (Js _).mono ?_;rintro e w9 ⟨rfl,fC⟩;have L2:=K2.o.below fC K2.o.lt;have iW:=B9.o.trans (fC.mono B9.o.size)
  have r0:=L2.cell 0;have g0:=L2.frozen 0;have L3:=L2.set_ 0 (.int .i64 fx);have r1:=L3.cell 1;have g1:=L3.frozen 1;have L4:=L3.set_ 1 (.int .i64 fy);have z0:=L4.cell 0;have z1:=L4.cell 1;simp only[aw,av,au] at r1 z0 z1;simp only[aB,aD,aA] at r0 r1 z0 z1;have BZ:=zh ((iW.setCell (p:=⟨w.heap.size+1+1,0,none⟩) (by show w.heap.size≤w.heap.size+1+1;omega) (.int .i64 fx)).setCell (p:=⟨w.heap.size+1+1,1,none⟩) (by show w.heap.size≤w.heap.size+1+1;omega) (.int .i64 fy))
  clear L2 L3 L4 iW fC K2 B9 Js;go_wp2_with fail;refine YF (v:=.tuple #[.agg #[.int .i64 fx,.int .i64 fy],.int .i64 fz]) (by simp[results,Tryz.results14,go_sem,z0,z1]) rfl ?_;exact⟨by rw[HV.o],BZ.o⟩
 have d5:decide ((0:Int)<(nl:Int))=false:=yC (by omega);have d6:decide (0<nl)=false:=yC c1;rw[d6,Bool.false_and] at AW;have HV:=zh (Ek.o false nl dl AW.o.1 AW.o.2.1 AW.o.2.2);obtain⟨fx,fy,fz,hf⟩:=pA false nl dl;have Js:=fun W=>uO false nl dl W;rw[hf] at HV Js;clear hf AW Ek c1;go_wp2_with fail;refine (Js _).mono ?_;rintro e w9 ⟨rfl,fC⟩;have L2:=K2.o.below fC K2.o.lt;have iW:=B9.o.trans (fC.mono B9.o.size)
 have r0:=L2.cell 0;have g0:=L2.frozen 0;have L3:=L2.set_ 0 (.int .i64 fx);have r1:=L3.cell 1;have g1:=L3.frozen 1;have L4:=L3.set_ 1 (.int .i64 fy);have z0:=L4.cell 0;have z1:=L4.cell 1;simp only[aw,av,au] at r1 z0 z1;simp only[aB,aD,aA] at r0 r1 z0 z1;have BZ:=zh ((iW.setCell (p:=⟨w.heap.size+1+1,0,none⟩) (by show w.heap.size≤w.heap.size+1+1;omega) (.int .i64 fx)).setCell (p:=⟨w.heap.size+1+1,1,none⟩) (by show w.heap.size≤w.heap.size+1+1;omega) (.int .i64 fy))
 clear L2 L3 L4 iW fC K2 B9 Js;go_wp2_with fail;refine YF (v:=.tuple #[.agg #[.int .i64 fx,.int .i64 fy],.int .i64 fz]) (by simp[results,Tryz.results14,go_sem,z0,z1]) rfl ?_;exact⟨by rw[HV.o],BZ.o⟩
theorem cX (q:Rat):∃x y z:Int,bQ q=.tuple #[.agg #[.int .i64 x,.int .i64 y],.int .i64 z]:=by
 unfold bQ;split
 ·exact⟨_,_,_,rfl⟩
 exact⟨_,_,_,rfl⟩
theorem Nt (a b:FrT) (w:World) (ha:aj a=true) (hb:aj b=true) (h0:b.num≠0) :
  Calls Tryz.prog 50 #[a.val,b.val] w fun e w'=>e=.returned (bQ (aU a/aU b))∧Below w.heap.size w w':=by
 have jA:=fun W=>gi a W;have Aa:=fun W=>gi b W;rw[ha] at jA;rw[hb] at Aa;obtain⟨i1,i2⟩:=QL hb h0;have hM:=fun W=>Wo a (CN b) W ha i1;rw[i2,←Rat.div_def] at hM;obtain⟨b1,b2,b3,b4⟩:=bB hb;obtain⟨fx,fy,fz,hf⟩:=cX (aU a/aU b);rw[hf] at hM⊢;clear ha hb i1 i2 hf;have e0:(b.num==0)=false:=zb h0;have n1:IntKind.i64.wrap (-b.den)=-b.den:=yF _ (by omega);have n2:IntKind.i64.wrap (-b.num)=-b.num:=yF _ (by omega)
 clear b1 b2 b3 b4 h0;have HI:Y0 (CN b=if b.num<0 then ⟨-b.den,-b.num⟩ else ⟨b.den,b.num⟩):=rfl;generalize CN b=ib at*;obtain⟨an,ad⟩:=a;obtain⟨bn,bd⟩:=b;simp only at*;have D0:=((Blk.new w 23 #[.int .i64 an,.int .i64 ad]).alloc (.cells #[.int .i64 bn,.int .i64 bd] 23)).alloc (.cells #[.int .i64 0,.int .i64 0] 23);have D1:=(Blk.new (w.alloc (.cells #[.int .i64 an,.int .i64 ad] 23)) 23 #[.int .i64 bn,.int .i64 bd]).alloc (.cells #[.int .i64 0,.int .i64 0] 23)
 have D2:=Blk.new ((w.alloc (.cells #[.int .i64 an,.int .i64 ad] 23)).alloc (.cells #[.int .i64 bn,.int .i64 bd] 23)) 23 #[.int .i64 0,.int .i64 0];have hB:=(((yB _ w).alloc (yA _) (.cells #[.int .i64 an,.int .i64 ad] 23)).alloc (by simp) (.cells #[.int .i64 bn,.int .i64 bd] 23)).alloc (by simp;omega) (.cells #[.int .i64 0,.int .i64 0] 23);rw[show ((w.alloc (.cells #[.int .i64 an,.int .i64 ad] 23)).alloc (.cells #[.int .i64 bn,.int .i64 bd] 23)).heap.size=w.heap.size+1+1 by simp] at D2
 rw[yZ] at D1;go_enter Tryz.func50,Tryz.ntmps50;go_wp2_with fail;generalize ((w.alloc (.cells #[.int .i64 an,.int .i64 ad] 23)).alloc (.cells #[.int .i64 bn,.int .i64 bd] 23)).alloc (.cells #[.int .i64 0,.int .i64 0] 23)=W1 at*;refine (jA W1).mono ?_;rintro e w2 ⟨rfl,bg⟩;have D0:=D0.below bg D0.lt;have D1:=D1.below bg D1.lt;have D2:=D2.below bg D2.lt;have hB:=hB.trans (bg.mono hB.size);obtain⟨u0,u1⟩:=D1.c2
 go_wp2_with fail;refine (Aa w2).mono ?_;rintro e w3 ⟨rfl,bZ⟩;clear u0 u1 jA Aa;have D0:=zh (D0.below bZ D0.lt);have D1:=zh (D1.below bZ D1.lt);have D2:=zh (D2.below bZ D2.lt);have HB:=zh (hB.trans (bZ.mono hB.size));clear bg bZ hB;have y0:=D0.o.cell 0;have y1:=D0.o.cell 1;have y2:=D1.o.cell 0;have y3:=D1.o.cell 1;simp only[aB,aD,aA] at y0 y1 y2 y3;by_cases hn:bn<0
 ·have e1:decide (bn<0)=true:=yD hn;rw[show ib=⟨-bd,-bn⟩ from HI.o.trans (if_pos hn)] at hM;clear hn HI;go_wp2_with fail;refine (hM _).mono ?_;rintro e w4 ⟨rfl,bP⟩;have lO:=D2.o.below bP D2.o.lt;have fj:=HB.o.trans (bP.mono HB.o.size);have q0:=lO.cell 0;have q1:=lO.cell 1;have f0:=lO.frozen 0;have E1:=(lO.set_ 0 (.int .i64 fx));have f1:=E1.frozen 1;have E2:=E1.set_ 1 (.int .i64 fy);have p0:=E2.cell 0
  have p1:=E2.cell 1;have r1:=E1.cell 1;simp only[aw,av,au] at p0 p1 r1;simp only[aB,aD,aA] at q0 q1 p0 p1 r1;have dw:=zh ((fj.setCell (p:=⟨w.heap.size+1+1,0,none⟩) (by show w.heap.size≤w.heap.size+1+1;omega) (.int .i64 fx)).setCell (p:=⟨w.heap.size+1+1,1,none⟩) (by show w.heap.size≤w.heap.size+1+1;omega) (.int .i64 fy));clear lO fj E1 E2 hM;go_wp2_with fail;refine YF (v:=.tuple #[.agg #[.int .i64 fx,.int .i64 fy],.int .i64 fz]) (by simp[results,Tryz.results50,go_sem,p0,p1]) rfl ?_
  exact⟨rfl,dw.o⟩
 have e1:decide (bn<0)=false:=yC hn;rw[show ib=⟨bd,bn⟩ from HI.o.trans (if_neg hn)] at hM;clear hn HI;go_wp2_with fail;refine (hM _).mono ?_;rintro e w4 ⟨rfl,bP⟩;have lO:=D2.o.below bP D2.o.lt;have fj:=HB.o.trans (bP.mono HB.o.size);have q0:=lO.cell 0;have q1:=lO.cell 1;have f0:=lO.frozen 0;have E1:=(lO.set_ 0 (.int .i64 fx));have f1:=E1.frozen 1;have E2:=E1.set_ 1 (.int .i64 fy);have p0:=E2.cell 0
 have p1:=E2.cell 1;have r1:=E1.cell 1;simp only[aw,av,au] at p0 p1 r1;simp only[aB,aD,aA] at q0 q1 p0 p1 r1;have dw:=zh ((fj.setCell (p:=⟨w.heap.size+1+1,0,none⟩) (by show w.heap.size≤w.heap.size+1+1;omega) (.int .i64 fx)).setCell (p:=⟨w.heap.size+1+1,1,none⟩) (by show w.heap.size≤w.heap.size+1+1;omega) (.int .i64 fy));clear lO fj E1 E2 hM;go_wp2_with fail;refine YF (v:=.tuple #[.agg #[.int .i64 fx,.int .i64 fy],.int .i64 fz]) (by simp[results,Tryz.results50,go_sem,p0,p1]) rfl ?_
 exact⟨rfl,dw.o⟩
theorem YW (m n:Nat) (w:World) (h:m+n<340282366920938463463374607431768211456):Calls Tryz.prog 58 #[cF m,cF n] w fun e w'=>e=.returned (cF (m+n))∧Below w.heap.size w w':=by
 have HL:Y0 (((m+n)%18446744073709551616:Nat)=(m%18446744073709551616+n%18446744073709551616+0)%18446744073709551616):=by unfold Y0;omega
 have HH:Y0 (((m+n)/18446744073709551616:Nat)=(m/18446744073709551616+n/18446744073709551616+(m%18446744073709551616+n%18446744073709551616+0)/18446744073709551616)%18446744073709551616):=by unfold Y0;omega
 have hc:(m%18446744073709551616+n%18446744073709551616+0)/18446744073709551616≤1:=by omega
 unfold cF;rw[HL.o,HH.o];clear HL HH h;generalize m/18446744073709551616=mh at*;generalize m%18446744073709551616=ml at*;generalize n/18446744073709551616=nh at*;generalize n%18446744073709551616=nl at*;have hA:∀W,(callFunc 100 #[.int .u64 (ml:Int),.int .u64 (nl:Int),.int .u64 0]).run Tryz.prog W=_:=fun W=>za ml nl 0 (by decide) W;have hA2:=fun W=>za mh nh _ hc W;generalize (ml+nl+0)/18446744073709551616=c at*
 generalize (ml+nl+0)%18446744073709551616=lo at*;generalize (mh+nh+c)%18446744073709551616=hi at*;generalize (mh+nh+c)/18446744073709551616=c2 at*;have D0:=((Blk.new w 89 #[.int .u64 (mh:Int),.int .u64 (ml:Int)]).alloc (.cells #[.int .u64 (nh:Int),.int .u64 (nl:Int)] 89)).alloc (.cells #[.int .u64 0,.int .u64 0] 89);have D1:=(Blk.new (w.alloc (.cells #[.int .u64 (mh:Int),.int .u64 (ml:Int)] 89)) 89 #[.int .u64 (nh:Int),.int .u64 (nl:Int)]).alloc (.cells #[.int .u64 0,.int .u64 0] 89)
 have D2:=Blk.new ((w.alloc (.cells #[.int .u64 (mh:Int),.int .u64 (ml:Int)] 89)).alloc (.cells #[.int .u64 (nh:Int),.int .u64 (nl:Int)] 89)) 89 #[.int .u64 0,.int .u64 0];have hB:=(((yB _ w).alloc (yA _) (.cells #[.int .u64 (mh:Int),.int .u64 (ml:Int)] 89)).alloc (by simp) (.cells #[.int .u64 (nh:Int),.int .u64 (nl:Int)] 89)).alloc (by simp;omega) (.cells #[.int .u64 0,.int .u64 0] 89);rw[show ((w.alloc (.cells #[.int .u64 (mh:Int),.int .u64 (ml:Int)] 89)).alloc (.cells #[.int .u64 (nh:Int),.int .u64 (nl:Int)] 89)).heap.size=w.heap.size+1+1 by simp] at D2
 rw[yZ] at D1;go_enter Tryz.func58,Tryz.ntmps58;go_upto_region 1 with fail;generalize ((w.alloc (.cells #[.int .u64 (mh:Int),.int .u64 (ml:Int)] 89)).alloc (.cells #[.int .u64 (nh:Int),.int .u64 (nl:Int)] 89)).alloc (.cells #[.int .u64 0,.int .u64 0] 89)=W1 at*;have x0:=D0.cell 0;have x1:=D0.cell 1;have y0:=D1.cell 0;have y1:=D1.cell 1;have r0:=D2.cell 0;have r1:=D2.cell 1;have f0:=D2.frozen 0;have D3:=D2.set_ 0 (.int .u64 (hi:Int))
 have f1:=D3.frozen 1;have D4:=zh (D3.set_ 1 (.int .u64 (lo:Int)));have s1:=D3.cell 1;have z0:=D4.o.cell 0;have z1:=D4.o.cell 1;simp only[aw,av,au,aB,aD,aA] at x0 x1 y0 y1 r0 r1 s1 z0 z1;have HB:=zh ((hB.setCell (p:=⟨w.heap.size+1+1,0,none⟩) (by show w.heap.size≤w.heap.size+1+1;omega) (.int .u64 (hi:Int))).setCell (p:=⟨w.heap.size+1+1,1,none⟩) (by show w.heap.size≤w.heap.size+1+1;omega) (.int .u64 (lo:Int)))
 clear D0 D1 D2 D3 hB;go_wp2_with (first|simp only[hA]|simp only[hA2]);refine YF (v:=.agg #[.int .u64 (hi:Int),.int .u64 (lo:Int)]) (by simp[results,Tryz.results58,go_sem,z0,z1]) rfl ?_;exact⟨rfl,HB.o⟩
theorem IR (m n:Nat) (w:World) (hm:m<340282366920938463463374607431768211456) (h:n≤m):Calls Tryz.prog 60 #[cF m,cF n] w fun e w'=>e=.returned (cF (m-n))∧Below w.heap.size w w':=by
 obtain⟨b,hb⟩:∃b,b=if m%18446744073709551616<n%18446744073709551616+0 then 1 else 0:=⟨_,rfl⟩
 have HL:Y0 (((m-n)%18446744073709551616:Nat)=(m%18446744073709551616+18446744073709551616-n%18446744073709551616-0)%18446744073709551616):=by unfold Y0;omega
 have HH:Y0 (((m-n)/18446744073709551616:Nat)=(m/18446744073709551616+18446744073709551616-n/18446744073709551616-b)%18446744073709551616):=by
  unfold Y0;subst hb;split <;> omega
 have hc:b≤1:=by subst hb;split <;> omega
 unfold cF;rw[HL.o,HH.o];clear HL HH h hm;generalize m/18446744073709551616=mh at*;generalize m%18446744073709551616=ml at*;generalize n/18446744073709551616=nh at*;generalize n%18446744073709551616=nl at*;have hA:∀W,(callFunc 101 #[.int .u64 (ml:Int),.int .u64 (nl:Int),.int .u64 0]).run Tryz.prog W=_:=fun W=>yz ml nl 0 (by decide) W;have hA2:=fun W=>yz mh nh b hc W;rw[←hb] at hA;generalize (ml+18446744073709551616-nl-0)%18446744073709551616=lo at*
 generalize (mh+18446744073709551616-nh-b)%18446744073709551616=hi at*;generalize (if mh<nh+b then 1 else 0:Nat)=c2 at*;clear hb hc;have D0:=((Blk.new w 89 #[.int .u64 (mh:Int),.int .u64 (ml:Int)]).alloc (.cells #[.int .u64 (nh:Int),.int .u64 (nl:Int)] 89)).alloc (.cells #[.int .u64 0,.int .u64 0] 89);have D1:=(Blk.new (w.alloc (.cells #[.int .u64 (mh:Int),.int .u64 (ml:Int)] 89)) 89 #[.int .u64 (nh:Int),.int .u64 (nl:Int)]).alloc (.cells #[.int .u64 0,.int .u64 0] 89)
 have D2:=Blk.new ((w.alloc (.cells #[.int .u64 (mh:Int),.int .u64 (ml:Int)] 89)).alloc (.cells #[.int .u64 (nh:Int),.int .u64 (nl:Int)] 89)) 89 #[.int .u64 0,.int .u64 0];have hB:=(((yB _ w).alloc (yA _) (.cells #[.int .u64 (mh:Int),.int .u64 (ml:Int)] 89)).alloc (by simp) (.cells #[.int .u64 (nh:Int),.int .u64 (nl:Int)] 89)).alloc (by simp;omega) (.cells #[.int .u64 0,.int .u64 0] 89);rw[show ((w.alloc (.cells #[.int .u64 (mh:Int),.int .u64 (ml:Int)] 89)).alloc (.cells #[.int .u64 (nh:Int),.int .u64 (nl:Int)] 89)).heap.size=w.heap.size+1+1 by simp] at D2
 rw[yZ] at D1;go_enter Tryz.func60,Tryz.ntmps60;go_upto_region 1 with fail;generalize ((w.alloc (.cells #[.int .u64 (mh:Int),.int .u64 (ml:Int)] 89)).alloc (.cells #[.int .u64 (nh:Int),.int .u64 (nl:Int)] 89)).alloc (.cells #[.int .u64 0,.int .u64 0] 89)=W1 at*;have x0:=D0.cell 0;have x1:=D0.cell 1;have y0:=D1.cell 0;have y1:=D1.cell 1;have r0:=D2.cell 0;have r1:=D2.cell 1;have f0:=D2.frozen 0;have D3:=D2.set_ 0 (.int .u64 (hi:Int))
 have f1:=D3.frozen 1;have D4:=zh (D3.set_ 1 (.int .u64 (lo:Int)));have s1:=D3.cell 1;have z0:=D4.o.cell 0;have z1:=D4.o.cell 1;simp only[aw,av,au,aB,aD,aA] at x0 x1 y0 y1 r0 r1 s1 z0 z1;have HB:=zh ((hB.setCell (p:=⟨w.heap.size+1+1,0,none⟩) (by show w.heap.size≤w.heap.size+1+1;omega) (.int .u64 (hi:Int))).setCell (p:=⟨w.heap.size+1+1,1,none⟩) (by show w.heap.size≤w.heap.size+1+1;omega) (.int .u64 (lo:Int)))
 clear D0 D1 D2 D3 hB;go_wp2_with (first|simp only[hA]|simp only[hA2]);refine YF (v:=.agg #[.int .u64 (hi:Int),.int .u64 (lo:Int)]) (by simp[results,Tryz.results60,go_sem,z0,z1]) rfl ?_;exact⟨rfl,HB.o⟩
theorem Ns (m b:Nat) (w:World) (hm:m<340282366920938463463374607431768211456) (gj:0<b) (hb:b<18446744073709551616):Calls Tryz.prog 61 #[cF m,.int .u64 (b:Int)] w fun e w'=>e=.returned (.tuple #[cF (m/b),.int .u64 ((m%b:Nat):Int)])∧Below w.heap.size w w':=by
 obtain⟨t1,t2⟩:=@uH 18446744073709551616 (m/18446744073709551616) (m%18446744073709551616) b;rw[show m/18446744073709551616*18446744073709551616+m%18446744073709551616=m from Nat.div_add_mod' m _] at t1 t2;have hhb:m/18446744073709551616%b<b:=YJ _ gj;have hql:(m/18446744073709551616%b*18446744073709551616+m%18446744073709551616)/b<18446744073709551616:=by
  rw[Nat.div_lt_iff_lt_mul gj];have h1:=Nat.mul_le_mul_right 18446744073709551616 (Nat.succ_le_of_lt hhb);rw[Nat.succ_mul] at h1;have h2:=Nat.mul_comm b 18446744073709551616;omega
 have hs:∀ {x y z:Nat},x=y*18446744073709551616+z→z<18446744073709551616→x/18446744073709551616=y∧x%18446744073709551616=z:=by intros;omega
 obtain⟨hH,hL⟩:=hs t1 hql;have HH:=zh hH;have HL:=zh hL;clear hs hH hL;have hD:=fun W=>LF (m/18446744073709551616%b) (m%18446744073709551616) b W hhb (by omega) hb;unfold cF;rw[HL.o,HH.o,t2];have v1:IntKind.u64.wrap (((m/18446744073709551616:Nat):Int)/(b:Int))=((m/18446744073709551616/b:Nat):Int):=by
  rw[←Int.natCast_ediv];exact Mul64.wrapN _ (Nat.lt_of_le_of_lt (YK _ _) (by omega))
 have v2:((m/18446744073709551616:Nat):Int)%(b:Int)=((m/18446744073709551616%b:Nat):Int):=(Int.natCast_emod _ _).symm;have b0:¬b=0:=by omega
 have b1:((b:Int)==0)=false:=zb (by omega);clear t1 t2 hhb hql HH HL hm gj hb;generalize m/18446744073709551616=mh at*;generalize m%18446744073709551616=ml at*;generalize mh/b=qh at*;generalize mh%b=rh at*;generalize (rh*18446744073709551616+ml)/b=ql at*;generalize (rh*18446744073709551616+ml)%b=rl at*;have ye:=fun W=>(hD W).mono fun _ _ h=>(⟨h.1,match h.2 with|⟨n,hn⟩=>hn▸Zf (yB _ _) n⟩:_∧Below W.heap.size W _)
 have D0:=(Blk.new w 89 #[.int .u64 (mh:Int),.int .u64 (ml:Int)]).alloc (.cells #[.int .u64 0,.int .u64 0] 89);have D1:=Blk.new (w.alloc (.cells #[.int .u64 (mh:Int),.int .u64 (ml:Int)] 89)) 89 #[.int .u64 0,.int .u64 0];have hB:=((yB _ w).alloc (yA _) (.cells #[.int .u64 (mh:Int),.int .u64 (ml:Int)] 89)).alloc (by simp) (.cells #[.int .u64 0,.int .u64 0] 89);rw[yZ] at D1;go_enter Tryz.func61,Tryz.ntmps61
 go_upto_region 1 with fail;generalize (w.alloc (.cells #[.int .u64 (mh:Int),.int .u64 (ml:Int)] 89)).alloc (.cells #[.int .u64 0,.int .u64 0] 89)=W1 at*;obtain⟨x0,x1⟩:=D0.c2;have u0:=YL x0;have u1:=YL x1;have cD:=HeldB.call (W:=W1) fun w' _=>ye w';clear x0 x1;refine bJ (by kernel_rfl) (by kernel_rfl) ?_
 repeat (go_big_quiet_step (first|(go_at_call 102;with_reducible exact cD _)))
 refine YE ?_;rintro w4 ⟨⟨w4',bP⟩,rfl⟩;have D0:=D0.below bP D0.lt;have D2:=D1.below bP D1.lt;have hB:=hB.trans (bP.mono hB.size);have x0:=D0.cell 0;have x1:=D0.cell 1;have r0:=D2.cell 0;have f0:=D2.frozen 0;have D3:=D2.set_ 0 (.int .u64 (qh:Int));have f1:=D3.frozen 1;have D4:=zh (D3.set_ 1 (.int .u64 (ql:Int)));have s1:=D3.cell 1;have z0:=D4.o.cell 0;have z1:=D4.o.cell 1;simp only[aw,av,au,aB,aD,aA] at x0 x1 r0 s1 z0 z1
 have HB:=zh ((hB.setCell (p:=⟨w.heap.size+1,0,none⟩) (by show w.heap.size≤w.heap.size+1;omega) (.int .u64 (qh:Int))).setCell (p:=⟨w.heap.size+1,1,none⟩) (by show w.heap.size≤w.heap.size+1;omega) (.int .u64 (ql:Int)));clear D0 D1 D2 D3 hB bP u0 u1 cD hD ye;go_wp2_with fail;refine YF (v:=.tuple #[.agg #[.int .u64 (qh:Int),.int .u64 (ql:Int)],.int .u64 (rl:Int)]) (by simp[results,Tryz.results61,go_sem,z0,z1]) rfl ?_
 exact⟨rfl,HB.o⟩
