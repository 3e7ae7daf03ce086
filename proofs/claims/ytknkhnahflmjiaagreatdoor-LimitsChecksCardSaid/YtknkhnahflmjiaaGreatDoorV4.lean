/- Lemmas. -/
import Derived.Test.YtknkhnahflmjiaaGreatDoorV3
namespace Go.Proofs.YtknkhnahflmjiaaGreatDoor
set_option maxRecDepth 100000
set_option maxHeartbeats 40000000
open Go.RowKit Go.Shelf
structure AddK (w W:World) (an ad bn bd:Int) (g7 g8:Nat) (xh xl yh yl:Nat):Prop where
 a:Blk W w.heap.size 23 #[.int .i64 an,.int .i64 ad]
 b:Blk W (w.heap.size+1) 23 #[.int .i64 bn,.int .i64 bd]
 r:Blk W (w.heap.size+1+1) 23 #[.int .i64 0,.int .i64 0]
 x:Blk W g7 89 #[.int .u64 (xh:Int),.int .u64 (xl:Int)]
 y:Blk W g8 89 #[.int .u64 (yh:Int),.int .u64 (yl:Int)]
 bel:Below w.heap.size w W
section
variable {w W W':World} {an ad bn bd:Int} {g7 g8 xh xl yh yl:Nat}
theorem AddK.grow (h:AddK w W an ad bn bd g7 g8 xh xl yh yl) (hb:Below W.heap.size W W'):AddK w W' an ad bn bd g7 g8 xh xl yh yl :=
 ⟨h.a.below hb h.a.lt,h.b.below hb h.b.lt,h.r.below hb h.r.lt,h.x.below hb h.x.lt,h.y.below hb h.y.lt,h.bel.trans (hb.mono h.bel.size)⟩
theorem AddK.put (h:AddK w W an ad bn bd g7 g8 xh xl yh yl) {g:Nat} (h0:w.heap.size+1+1<g) (h7:g≠g7) (h8:g≠g8) (k:Nat) (v:Value):AddK w (W.setCell ⟨g,k,none⟩ v) an ad bn bd g7 g8 xh xl yh yl :=
 ⟨h.a.far (p:=⟨g,k,none⟩) (by show w.heap.size≠g;omega) v,h.b.far (p:=⟨g,k,none⟩) (by show w.heap.size+1≠g;omega) v,h.r.far (p:=⟨g,k,none⟩) (by show w.heap.size+1+1≠g;omega) v,h.x.far (p:=⟨g,k,none⟩) (Ne.symm h7) v,h.y.far (p:=⟨g,k,none⟩) (Ne.symm h8) v,h.bel.setCell (p:=⟨g,k,none⟩) (by show w.heap.size≤g;omega) v⟩
end
theorem qzv (a b:FrT) (w:World) (ha:aj a=true) (hb:aj b=true) :
  Calls Tryz.prog 16 #[a.val,b.val] w fun e w'=>e=.returned (bQ (aU a+aU b))∧Below w.heap.size w w':=by
 have jA:=fun W=>gi a W;have Aa:=fun W=>gi b W;rw[ha] at jA;rw[hb] at Aa;obtain⟨a1,a2,a3,a4⟩:=bB ha;obtain⟨b1,b2,b3,b4⟩:=bB hb;have wa:IntKind.u64.wrap a.den=((a.den.natAbs:Nat):Int):=by show a.den%18446744073709551616=_;omega
 have wb:IntKind.u64.wrap b.den=((b.den.natAbs:Nat):Int):=by show b.den%18446744073709551616=_;omega
 have zl:=zh fun W=>rQ (n:=a.num) W a3 a4;have Bl:=zh fun W=>rQ (n:=b.num) W b3 b4;have XD:=@qzj a b ha hb;obtain⟨pc,T9,hq,hp,hp0⟩:=qzk ha hb rfl;obtain⟨g,hg⟩:=zo (a.den.natAbs.gcd b.den.natAbs);have HG:=zh fun W=>(BR a.den.natAbs b.den.natAbs W (by omega) (by omega)).mono fun _ _ h=>(⟨h.1,match h.2 with|⟨n,hn⟩=>hn▸Zf (yB _ _) n⟩:_∧Below W.heap.size W _);rw[hg] at XD pc T9 hq hp hp0 HG;obtain⟨p,hpe⟩:=zo (b.den.natAbs/g)
 obtain⟨q,hqe⟩:=zo (a.den.natAbs/g);have t1:(b.den.natAbs:Int)/(g:Int)=(p:Int):=by rw[←hpe,Int.natCast_ediv]
 have t2:(a.den.natAbs:Int)/(g:Int)=(q:Int):=by rw[←hqe,Int.natCast_ediv]
 have Wn:(b.den.natAbs:Int).tdiv (g:Int)=(p:Int):=by rw[←hpe];exact (Int.ofNat_tdiv _ _).symm
 have t2':(a.den.natAbs:Int).tdiv (g:Int)=(q:Int):=by rw[←hqe];exact (Int.ofNat_tdiv _ _).symm
 rw[hpe] at hp hp0;rw[hqe] at hq;have x1:IntKind.u64.wrap (p:Int)=(p:Int):=Mul64.wrapN _ (by omega);have x2:IntKind.u64.wrap (q:Int)=(q:Int):=Mul64.wrapN _ (by omega);have y1:((g:Int)==0)=false:=zb (by omega);have y3:¬(g:Int)=0:=by omega
 have y4:¬g=0:=by omega
 have Bn:=zh fun W=>pQ (x:=a.num.natAbs) (y:=p) W (by omega) (by omega);have Bm:=zh fun W=>pQ (x:=b.num.natAbs) (y:=q) W (by omega) (by omega);have hXb:a.num.natAbs*p≤1152921504606846976*1152921504606846976:=Nat.mul_le_mul (by omega) hp;have hYb:b.num.natAbs*q≤1152921504606846976*1152921504606846976:=Nat.mul_le_mul (by omega) hq;obtain⟨X,hX⟩:=zo (a.num.natAbs*p);obtain⟨Y,hY⟩:=zo (b.num.natAbs*q);obtain⟨s1,E0⟩:∃s1,decide (a.num<0)=s1:=⟨_,rfl⟩
 obtain⟨s2,Ij⟩:∃s2,decide (b.num<0)=s2:=⟨_,rfl⟩;rw[hX] at hXb Bn;rw[hY] at hYb Bm;rw[E0,Ij] at XD;have qjE:=fun n m (hn:n=gC s1 s2 X Y) (hm:m=g.gcd (n%g))=>XD (x:=X) (y:=Y) (n:=n) (m:=m) rfl (by rw[hpe];exact hX.symm) (by rw[hqe];exact hY.symm) hn hm;rw[hqe] at qjE;have AW:=zh qjE;have Tn:Y0 (b.den.natAbs≤1152921504606846976∧q≤1152921504606846976∧0<g∧g≤1152921504606846976):=⟨by omega,hq,pc,T9⟩;have HXb:Y0 (X≤1152921504606846976*1152921504606846976∧Y≤1152921504606846976*1152921504606846976):=⟨hXb,hYb⟩
 clear ha hb a1 a2 a3 a4 b1 b2 b3 b4 XD qjE hg pc T9 hq hp hp0 hpe hqe hX hY hXb hYb;have tN:=zh (@Dn (aU a+aU b));have Ek:=zh fun neg n d=>@sB (aU a+aU b) n d neg;generalize aU a+aU b=P at*;obtain⟨an,ad⟩:=a;obtain⟨bn,bd⟩:=b;simp only at*;have D0:=((Blk.new w 23 #[.int .i64 an,.int .i64 ad]).alloc (.cells #[.int .i64 bn,.int .i64 bd] 23)).alloc (.cells #[.int .i64 0,.int .i64 0] 23);have D1:=(Blk.new (w.alloc (.cells #[.int .i64 an,.int .i64 ad] 23)) 23 #[.int .i64 bn,.int .i64 bd]).alloc (.cells #[.int .i64 0,.int .i64 0] 23)
 have D2:=Blk.new ((w.alloc (.cells #[.int .i64 an,.int .i64 ad] 23)).alloc (.cells #[.int .i64 bn,.int .i64 bd] 23)) 23 #[.int .i64 0,.int .i64 0];have hB:=(((yB _ w).alloc (yA _) (.cells #[.int .i64 an,.int .i64 ad] 23)).alloc (by simp) (.cells #[.int .i64 bn,.int .i64 bd] 23)).alloc (by simp;omega) (.cells #[.int .i64 0,.int .i64 0] 23);have hs:(((w.alloc (.cells #[.int .i64 an,.int .i64 ad] 23)).alloc (.cells #[.int .i64 bn,.int .i64 bd] 23)).alloc (.cells #[.int .i64 0,.int .i64 0] 23)).heap.size=w.heap.size+1+1+1:=by simp
 rw[show ((w.alloc (.cells #[.int .i64 an,.int .i64 ad] 23)).alloc (.cells #[.int .i64 bn,.int .i64 bd] 23)).heap.size=w.heap.size+1+1 by simp] at D2;rw[yZ] at D1;go_enter Tryz.func16,Tryz.ntmps16;go_wp2_with fail;generalize ((w.alloc (.cells #[.int .i64 an,.int .i64 ad] 23)).alloc (.cells #[.int .i64 bn,.int .i64 bd] 23)).alloc (.cells #[.int .i64 0,.int .i64 0] 23)=W1 at*;refine (jA W1).mono ?_;rintro e w2 ⟨rfl,bg⟩
 have D0:=D0.below bg D0.lt;have D1:=D1.below bg D1.lt;have D2:=D2.below bg D2.lt;have hB:=hB.trans (bg.mono hB.size);have hs:w.heap.size+1+1<w2.heap.size:=by have:=bg.size;omega
 obtain⟨u0,u1⟩:=D1.c2;go_wp2_with fail;refine (Aa w2).mono ?_;rintro e w3 ⟨rfl,bZ⟩;clear u0 u1 jA Aa;have D0:=zh (D0.below bZ D0.lt);have D1:=zh (D1.below bZ D1.lt);have D2:=zh (D2.below bZ D2.lt);have HB:=zh (hB.trans (bZ.mono hB.size));have Hs:Y0 (w.heap.size+1+1<w3.heap.size):=by have:=bZ.size;unfold Y0;omega
 have y0:=D0.o.cell 1;have y2:=D1.o.cell 1;simp only[aB,aD,aA] at y0 y2;clear bg bZ hB hs;go_upto_region 4 with (go_at_call 54;refine (HG.o _).mono ?_;rintro e w4 ⟨rfl,bP⟩);have D0:=zh (D0.o.below bP D0.o.lt);have D1:=zh (D1.o.below bP D1.o.lt);have D2:=zh (D2.o.below bP D2.o.lt);have HB:=zh (HB.o.trans (bP.mono HB.o.size));have Hs:Y0 (w.heap.size+1+1<w4.heap.size):=by have:=bP.size;have:=Hs.o;unfold Y0;omega
 clear bP y0 y2;have y0:=D0.o.cell 0;have Bu:=D0.o.cell 1;have Kf:=D1.o.cell 0;have E7:=D1.o.cell 1;simp only[aB,aD,aA] at y0 Bu Kf E7;have u0:=YL y0;have u1:=YL Bu;have u2:=YL Kf;have u3:=YL E7;clear y0 Bu Kf E7;refine dt 20 (fun jx=>if jx=2 then some (gV (.int .u64 (an.natAbs:Nat))) else if jx=8 then some (gV (cF X)) else if jx=11 then some (gV (.int .u64 (bn.natAbs:Nat))) else if jx=17 then some (gV (cF Y)) else if jx=18 then some (XJ w4.heap.size) else if jx=19 then some (XJ w4.heap.size) else none) [7,8] (by kernel_rfl) (by kernel_rfl) (by kernel_rfl) (kV rfl rfl) ?_
 simp only[aO,aR,aP,aQ];refine zw 2 ?_;simp only[aO,aR,aP,aQ]
 repeat (go_big_quiet_step (fail))
 refine YE ?_;refine ae rfl rfl (fun w1 _ _=>zc (zl.o w1)) ?_;rintro _ rfl;simp only[Act.put,aw,av,au];refine zw 5 ?_;simp only[aO,aR,aP,aQ]
 repeat (go_big_quiet_step (fail))
 refine YE ?_;refine ae rfl rfl (fun w1 _ _=>zc (Bn.o w1)) ?_;rintro _ rfl;simp only[Act.put,aw,av,au];refine zw 2 ?_;simp only[aO,aR,aP,aQ]
 repeat (go_big_quiet_step (fail))
 refine YE ?_;refine ae rfl rfl (fun w1 _ _=>zc (Bl.o w1)) ?_;rintro _ rfl;simp only[Act.put,aw,av,au];refine zw 5 ?_;simp only[aO,aR,aP,aQ]
 repeat (go_big_quiet_step (fail))
 refine YE ?_;refine ae rfl rfl (fun w1 _ _=>zc (Bm.o w1)) ?_;rintro _ rfl;simp only[Act.put,aw,av,au];refine aX rfl rfl (fun w1 ak _=>mB ak.size (by go_simp)) ?_;rintro _ ⟨g7,rfl⟩;simp only[Act.put,aw,av,au];refine aX rfl rfl (fun w1 ak _=>mB ak.size (by go_simp)) ?_;rintro _ ⟨g8,rfl⟩;simp only[Act.put,aw,av,au];refine Zc ?_;intro w8 aT hF hA;have h6:oy w4.heap.size (.pointer (some ⟨g7,0,none⟩)) w8:=hF 7
 have h7:oy w4.heap.size (.pointer (some ⟨g8,0,none⟩)) w8:=hF 8;have yf:g8≠g7:=fun e=>(hA 7 (by simp) g7 rfl).2 8 (by simp) (by decide) (by rw[e];rfl);have Ts:=D0.o.below aT D0.o.lt;have Tr:=D1.o.below aT D1.o.lt;have D28:=D2.o.below aT D2.o.lt;have B8:=HB.o.trans (aT.mono HB.o.size);obtain⟨_,e6,l6,b6⟩:=h6;obtain⟨_,e7,l7,b7⟩:=h7;injection e6 with e6;injection e6 with e6;injection e6 with e6 _ _;injection e7 with e7
 injection e7 with e7;injection e7 with e7 _ _;subst e6 e7;have hs4:=Hs.o;have HPl:=zh fun W h=>YW X Y W h;have HMi:=zh fun W h=>IR X Y W (by have:=HXb.o;omega) h;have HMj:=zh fun W h=>IR Y X W (by have:=HXb.o;omega) h;have qn:=zh fun W=>Fi X Y W;unfold cF at HPl HMi HMj qn⊢;generalize X/18446744073709551616=xh at*;generalize X%18446744073709551616=xl at*;generalize Y/18446744073709551616=yh at*;generalize Y%18446744073709551616=yl at*
 obtain⟨B9,p6,p7,hk⟩:=uB B8 l6 l7 (by omega) yf b6 b7 (.int .u64 (xh:Int)) (.int .u64 (xl:Int)) (.int .u64 (yh:Int)) (.int .u64 (yl:Int)) rfl;have HK:Y0 (AddK w _ an ad bn bd g7 g8 xh xl yh yl):=⟨hk Ts (by omega),hk Tr (by omega),hk D28 (by omega),p6,p7,B9⟩;have HG7:Y0 (g7<w8.heap.size∧g8<w8.heap.size∧w.heap.size+1+1<w8.heap.size):=⟨b6.lt,b7.lt,by have:=aT.size;omega⟩;have Du:=b6.frozen 0;have Dt:=(b6.set_ 0 (.int .u64 (xh:Int))).frozen 1
 have AI:=(b7.far (p:=⟨g7,0,none⟩) yf (.int .u64 (xh:Int))).far (p:=⟨g7,1,none⟩) yf (.int .u64 (xl:Int));have zf:=AI.set_ 0 (.int .u64 (yh:Int));have TF:=AI.frozen 0;have TE:=zf.frozen 1;have TH:=b6.cell 0;have SG:=(b6.set_ 0 (.int .u64 (xh:Int))).cell 1;have LL:=AI.cell 0;have DY:=zf.cell 1;simp only[aw,av] at DY SG;simp only[aB,aD,aA] at TH SG LL DY;clear AI zf hk zl Bl Bn Bm yf hs4 Hs l6 l7 b6 b7 p6 p7 B8 B9 Ts Tr D28 hA hF aT HB D0 D1 D2 u0 u1 u2 u3 HG
 go_upto_region 5 with fail;generalize XB:(((w8.setCell ⟨g7,0,none⟩ (.int .u64 (xh:Int))).setCell ⟨g7,1,none⟩ (.int .u64 (xl:Int))).setCell ⟨g8,0,none⟩ (.int .u64 (yh:Int))).setCell ⟨g8,1,none⟩ (.int .u64 (yl:Int))=W4 at*;have hW5:w8.heap.size=W4.heap.size:=by rw[←XB];simp
 clear XB;clear Du Dt TF TE TH SG LL DY;rw[hW5] at HG7;clear hW5;have z0:=HK.o.a.cell 0;have k0:=(Blk.new W4 89 #[.int .u64 0,.int .u64 0]).cell 0;have k1:=((Blk.new W4 89 #[.int .u64 0,.int .u64 0]).set_ 0 (.int .u64 0)).cell 1;have m0:=(Blk.new W4 89 #[.int .u64 0,.int .u64 0]).frozen 0;have m1:=((Blk.new W4 89 #[.int .u64 0,.int .u64 0]).set_ 0 (.int .u64 0)).frozen 1;simp only[aw,av,aB,aD,aA] at z0 k0 k1
 have TA:=HG7.o;have HK:=zh (HK.o.grow ((yB _ W4).alloc (yA _) (.cells #[.int .u64 0,.int .u64 0] 89)));have jC:=zh (Blk.new W4 89 #[.int .u64 0,.int .u64 0]);clear TA;go_upto_region 7 with fail;generalize W4.alloc (.cells #[.int .u64 0,.int .u64 0] 89)=W5 at*;obtain⟨Lr,qkC⟩:=zo (W4.heap.size);rw[qkC] at HG7 jC⊢;clear qkC;have h3:s1=s2∨(¬s1=s2∧X<Y)∨(¬s1=s2∧¬X<Y):=by
  by_cases h:s1=s2
  ·exact .inl h
  by_cases h2:X<Y
  ·exact .inr (.inl ⟨h,h2⟩)
  exact .inr (.inr ⟨h,h2⟩)
 rcases h3 with my|⟨my,aI⟩|⟨my,aI⟩
 case' inl=>
  have hbq:(s1==s2)=true:=by rw[my];exact beq_self_eq_true _
  obtain⟨neg,kj⟩:=zo (s2);obtain⟨num,lB⟩:∃num,num=X+Y:=⟨_,rfl⟩;have UU:num=gC s1 s2 X Y:=by rw[lB];unfold gC;rw[if_pos my]
  have VP:Y0 (fN s1 s2 X Y=s1):=by unfold Y0 fN;rw[if_pos my]
  have hCl:=fun W=>HPl.o W (by have:=HXb.o;omega);have VP:Y0 (fN s1 s2 X Y=neg):=VP.o.trans (my.trans kj)
 case' inr.inl=>
  have hbq:(s1==s2)=false:=zb my;obtain⟨neg,kj⟩:=zo ((!s1));have iD:=qn.o;rw[yD aI] at iD;obtain⟨num,lB⟩:∃num,num=Y-X:=⟨_,rfl⟩;have UU:num=gC s1 s2 X Y:=by rw[lB];unfold gC;rw[if_neg my,if_pos aI]
  have VP:Y0 (fN s1 s2 X Y = !s1):=by unfold Y0 fN;rw[if_neg my,if_pos aI]
  have hCl:=fun W=>HMj.o W (YG aI);have VP:Y0 (fN s1 s2 X Y=neg):=VP.o.trans kj
 case' inr.inr=>
  have hbq:(s1==s2)=false:=zb my;obtain⟨neg,kj⟩:=zo (s1);have vwR:(neg==s2)=false:=by rw[←kj];exact hbq
  have vwL:¬neg=s2:=by rw[←kj];exact my
  have iD:=qn.o;rw[yC aI] at iD;obtain⟨num,lB⟩:∃num,num=X-Y:=⟨_,rfl⟩;have UU:num=gC s1 s2 X Y:=by rw[lB];unfold gC;rw[if_neg my,if_neg aI]
  have VP:Y0 (fN s1 s2 X Y=s1):=by unfold Y0 fN;rw[if_neg my,if_neg aI]
  have hCl:=fun W=>HMi.o W (Nat.le_of_not_lt aI);have VP:Y0 (fN s1 s2 X Y=neg):=VP.o.trans kj
 all_goals
  have HR:=zh (AW.o num _ UU rfl);have M6:Y0 (num<340282366920938463463374607431768211456):=by have:=HXb.o;unfold Y0;omega
  rw[←lB] at hCl;have HW:Y0 (num=18446744073709551616*(num/18446744073709551616)+num%18446744073709551616):=(YI _ _).symm;obtain⟨rest,QX⟩:=zo (num%g);have jL:=Tn.o;have hrl:rest<g:=by rw[←QX];exact YJ _ jL.2.2.1
  obtain⟨m,hm⟩:=zo (g.gcd rest);have Jt:0<m:=by rw[←hm];exact Nat.gcd_pos_of_pos_left _ jL.2.2.1
  have T5:m≤1152921504606846976:=by rw[←hm];exact yH (Nat.gcd_le_left _ jL.2.2.1) jL.2.2.2
  have gZ:=zh fun W=>Ns num g W M6.o jL.2.2.1 (by omega);have HOm:=zh fun W=>Ns num m W M6.o Jt (by omega);have HGm:=zh fun W=>(BR g rest W (by omega) (by omega)).mono fun _ _ h=>(⟨h.1,match h.2 with|⟨n,hn⟩=>hn▸Zf (yB _ _) n⟩:_∧Below W.heap.size W _);obtain⟨k,hk⟩:=zo (bd.natAbs/m);have aK:k≤1152921504606846976:=by rw[←hk];exact yH (YK _ _) jL.1
  have HT3:Y0 ((bd.natAbs:Int)/(m:Int)=(k:Int)∧(bd.natAbs:Int).tdiv (m:Int)=(k:Int)):=⟨by rw[←hk,Int.natCast_ediv],by rw[←hk];exact (Int.ofNat_tdiv _ _).symm⟩;have TK:Y0 (0<m∧k≤1152921504606846976):=⟨Jt,aK⟩;have HP3:=zh fun W=>pQ (x:=q) (y:=k) W (by omega) (by omega);rw[QX] at gZ HR;rw[hm] at HGm HR;rw[hk] at HR;clear QX hrl hm Jt T5 hk aK jL;unfold cF at gZ HOm;generalize num/18446744073709551616=nh at*
  generalize num%18446744073709551616=nl at*;generalize num/g/18446744073709551616=oh at*;generalize num/g%18446744073709551616=ol at*;obtain⟨n1,xU⟩:=zo (num/m);rw[xU] at HOm HR;clear xU;have HX:Y0 (n1=18446744073709551616*(n1/18446744073709551616)+n1%18446744073709551616):=(YI _ _).symm;generalize n1/18446744073709551616=ah at*;generalize n1%18446744073709551616=al at*;have HCl:=zh hCl;clear hCl lB UU HPl HMi HMj AW
  have c0:=HK.o.x.cell 0;have c1:=HK.o.x.cell 1;have c2:=HK.o.y.cell 0;have c3:=HK.o.y.cell 1;have c4:=HK.o.a.cell 0;have c5:=HK.o.b.cell 0;simp only[aB,aD,aA] at c0 c1 c2 c3 c4 c5;go_upto_region 11 with (first|(go_at_call 59;refine (iD _).mono ?_;rintro e w5 ⟨rfl,bf⟩;have jC:=zh (jC.o.below bf jC.o.lt);have HK:=zh (HK.o.grow bf);clear c0 c1 c2 c3 c4 c5 bf;have c0:=HK.o.x.cell 0;have c1:=HK.o.x.cell 1;have c2:=HK.o.y.cell 0;have c3:=HK.o.y.cell 1;have c4:=HK.o.a.cell 0;have c5:=HK.o.b.cell 0;simp only[aB,aD,aA] at c0 c1 c2 c3 c4 c5)|((first|go_at_call 58|go_at_call 60);refine (HCl.o _).mono ?_;rintro e w6 ⟨rfl,fk⟩;have jC:=zh (jC.o.below fk jC.o.lt);have HK:=zh (HK.o.grow fk);have j0:=jC.o.cell 0;have f0:=jC.o.frozen 0;have JU:=jC.o.set_ 0 (.int .u64 (nh:Int));have j1:=JU.cell 1;have f1:=JU.frozen 1;simp only[aw,av,aB,aD,aA] at j0 j1;clear JU))
  have TA:=HG7.o;have HK:=zh ((HK.o.put (g:=Lr) (by omega) (by omega) (by omega) 0 (.int .u64 (nh:Int))).put (g:=Lr) (by omega) (by omega) (by omega) 1 (.int .u64 (nl:Int)));have jC:=zh ((jC.o.set_ 0 (.int .u64 (nh:Int))).set_ 1 (.int .u64 (nl:Int)));generalize (w6.setCell ⟨Lr,0,none⟩ (.int .u64 (nh:Int))).setCell ⟨Lr,1,none⟩ (.int .u64 (nl:Int))=V at*;clear TA j0 j1 f0 f1 fk HCl c0 c1 c2 c3 c4 c5 hbq
  simp only[aw,av,au,] at jC;clear qn kj E0 Ij HXb;obtain⟨j0,j1⟩:=jC.o.c2;by_cases hz:num=0
  ·have hnh:nh=0:=by have:=HW.o;omega
   have UC:nl=0:=by have:=HW.o;omega
   subst hnh;subst UC;have HV:Y0 (bQ P=.tuple #[.agg #[.int .i64 0,.int .i64 1],.int .i64 0]):=by unfold Y0;rw[HR.o.1 hz];rfl
   have r0:=HK.o.r.cell 0;have g0:=HK.o.r.frozen 0;have L3:=HK.o.r.set_ 0 (.int .i64 0);have r1:=L3.cell 1;have g1:=L3.frozen 1;have L4:=L3.set_ 1 (.int .i64 1);have z0:=L4.cell 0;have z1:=L4.cell 1;simp only[aw,av,au,aB,aD,aA] at r0 r1 z0 z1;have BZ:=zh ((HK.o.bel.setCell (p:=⟨w.heap.size+1+1,0,none⟩) (by show w.heap.size≤w.heap.size+1+1;omega) (.int .i64 0)).setCell (p:=⟨w.heap.size+1+1,1,none⟩) (by show w.heap.size≤w.heap.size+1+1;omega) (.int .i64 1))
   clear L3 L4;clear HR tN Ek gZ HW hz;go_wp2_with fail;refine YF (v:=.tuple #[.agg #[.int .i64 0,.int .i64 1],.int .i64 0]) (by simp[results,Tryz.results16,go_sem,z0,z1]) rfl ?_;exact⟨by rw[HV.o],BZ.o⟩
  have mV:=zh (HR.o.2 hz);clear HR;by_cases qR:nh=0
  case' pos=>
   have vwN:¬nl=0:=by have:=HW.o;omega
   subst qR
  all_goals
   clear hz HW;go_upto_region 14 with (first|(go_at_call 61;refine (gZ.o _).mono ?_;rintro e w7 ⟨rfl,gu⟩;have jC:=zh (jC.o.below gu jC.o.lt);have HK:=zh (HK.o.grow gu);have N11:=Blk.new w7 89 #[.int .u64 0,.int .u64 0];have k0:=N11.cell 0;have m0:=N11.frozen 0;have N12:=N11.set_ 0 (.int .u64 (oh:Int));have k1:=N12.cell 1;have m1:=N12.frozen 1;simp only[aw,av,aB,aD,aA] at k0 k1;clear N11 N12));have TA:=HG7.o
   have hke:=jC.o.lt;have HK:=zh (HK.o.grow ((yB _ w7).alloc (yA _) (.cells #[.int .u64 (oh:Int),.int .u64 (ol:Int)] 89)));have jC:=zh (jC.o.below ((yB _ w7).alloc (yA _) (.cells #[.int .u64 (oh:Int),.int .u64 (ol:Int)] 89)) hke);generalize w7.alloc (.cells #[.int .u64 (oh:Int),.int .u64 (ol:Int)] 89)=V2 at*;clear hke k0 k1 m0 m1 gu j0 j1 gZ;obtain⟨j0,j1⟩:=jC.o.c2;go_upto_region 15 with (first|(go_at_call 54;refine (HGm.o _).mono ?_;rintro e w8 ⟨rfl,aT⟩))
   have jC:=zh (jC.o.below aT jC.o.lt);have HK:=zh (HK.o.grow aT);clear aT j0 j1 HGm;obtain⟨j0,j1⟩:=jC.o.c2;go_upto_region 16 with (first|(go_at_call 61;refine (HOm.o _).mono ?_;rintro e w9 ⟨rfl,fC⟩;have jC:=zh (jC.o.below fC jC.o.lt);have HK:=zh (HK.o.grow fC);have j0:=jC.o.cell 0;have f0:=jC.o.frozen 0;have JU:=jC.o.set_ 0 (.int .u64 (ah:Int));have j1:=JU.cell 1;have f1:=JU.frozen 1;simp only[aw,av,aB,aD,aA] at j0 j1;clear JU))
   have HK:=zh ((HK.o.put (g:=Lr) (by omega) (by omega) (by omega) 0 (.int .u64 (ah:Int))).put (g:=Lr) (by omega) (by omega) (by omega) 1 (.int .u64 (al:Int)));have jC:=zh ((jC.o.set_ 0 (.int .u64 (ah:Int))).set_ 1 (.int .u64 (al:Int)));simp only[aw,av,au,] at jC;generalize (w9.setCell ⟨Lr,0,none⟩ (.int .u64 (ah:Int))).setCell ⟨Lr,1,none⟩ (.int .u64 (al:Int))=V3 at*;clear j0 j1 f0 f1 fC HOm;have Bu:=HK.o.a.cell 1
   have E7:=HK.o.b.cell 1;simp only[aB,aD,aA] at Bu E7;have u1:=YL Bu;have u3:=YL E7;clear Bu E7;obtain⟨t3,t3'⟩:=HT3.o;obtain⟨Jt,aK⟩:=TK.o;have x3:IntKind.u64.wrap (k:Int)=(k:Int):=Mul64.wrapN _ (by omega);have y5:((m:Int)==0)=false:=zb (by omega);have y6:¬(m:Int)=0:=by omega
   have y7:¬m=0:=by omega
   refine af 12 (fun jx=>if jx=10 then some (gV (cF (q*k))) else if jx=11 then some (XJ V3.heap.size) else none) (by kernel_rfl) (by kernel_rfl) ?_;simp only[aO,aR,aP,aQ];refine zw 10 ?_;simp only[aO,aR,aP,aQ]
   repeat (go_big_quiet_step (fail))
   refine YE ?_;refine ae rfl rfl (fun w1 _ _=>zc (HP3.o w1)) ?_;rintro _ rfl;simp only[Act.put,aw,av,au];refine aX rfl rfl (fun w1 ak _=>mB ak.size (by go_simp)) ?_;rintro _ ⟨yi,rfl⟩;simp only[Act.put,aw,av,au];refine Zc ?_;intro zp sw hF;have h7:oy V3.heap.size (.pointer (some ⟨yi,0,none⟩)) zp:=hF 14;obtain⟨_,e7,l7,b7⟩:=h7;injection e7 with e7;injection e7 with e7;injection e7 with e7 _ _;subst e7
   have hse:=jC.o.lt;have jC:=zh (jC.o.below sw jC.o.lt);have hsa:=HK.o.x.lt;have U7:=HK.o.y.lt;have hsc:=HK.o.r.lt;have hsd:=HK.o.bel.size;have HK:=zh (HK.o.grow sw);obtain⟨D,hD⟩:=zo (q*k);rw[hD] at mV;unfold cF;rw[hD];have HY:Y0 (D=18446744073709551616*(D/18446744073709551616)+D%18446744073709551616):=(YI _ _).symm;generalize D/18446744073709551616=dh at*;generalize D%18446744073709551616=dl at*
   have TA:=HG7.o;have TF:=b7.frozen 0;have LL:=b7.cell 0;have zf:=b7.set_ 0 (.int .u64 (dh:Int));have TE:=zf.frozen 1;have DY:=zf.cell 1;simp only[aw,av,aB,aD,aA] at LL DY;have HK:=zh ((HK.o.put (g:=yi) (by omega) (by omega) (by omega) 0 (.int .u64 (dh:Int))).put (g:=yi) (by omega) (by omega) (by omega) 1 (.int .u64 (dl:Int)));have jC:=zh ((jC.o.far (p:=⟨yi,0,none⟩) (by show Lr≠yi;omega) (.int .u64 (dh:Int))).far (p:=⟨yi,1,none⟩) (by show Lr≠yi;omega) (.int .u64 (dl:Int)))
   have K14:=zh (zf.set_ 1 (.int .u64 (dl:Int)));simp only[aw,av,au,] at K14;clear b7 zf l7 hF sw HP3 u1 u3 t3 t3' x3 y5 y6 y7 Jt aK HT3 TK hsa U7 hsc hsd hse TA;go_upto_region 17 with fail;generalize (zp.setCell ⟨yi,0,none⟩ (.int .u64 (dh:Int))).setCell ⟨yi,1,none⟩ (.int .u64 (dl:Int))=V4 at*;clear TF TE LL DY;have j0:=jC.o.cell 0;have j1:=jC.o.cell 1;have j2:=K14.o.cell 0;have j3:=K14.o.cell 1;simp only[aB,aD,aA] at j0 j1 j2 j3
   by_cases c1:0<ah
   ·have d1:decide ((0:Int)<(ah:Int))=true:=yD (by omega);have d2:decide (0<ah)=true:=yD c1;have HV:Y0 (bQ P=.tuple #[.agg #[.int .i64 0,.int .i64 0],.int .i64 5]):=tN.o (by obtain⟨e1,e2,-⟩:=mV.o;have:=HX.o;have:=HY.o;omega);have r0:=HK.o.r.cell 0;have g0:=HK.o.r.frozen 0;have L3:=HK.o.r.set_ 0 (.int .i64 0);have r1:=L3.cell 1;have g1:=L3.frozen 1;have L4:=L3.set_ 1 (.int .i64 0);have z0:=L4.cell 0
    have z1:=L4.cell 1;simp only[aw,av,au,aB,aD,aA] at r0 r1 z0 z1;have BZ:=zh ((HK.o.bel.setCell (p:=⟨w.heap.size+1+1,0,none⟩) (by show w.heap.size≤w.heap.size+1+1;omega) (.int .i64 0)).setCell (p:=⟨w.heap.size+1+1,1,none⟩) (by show w.heap.size≤w.heap.size+1+1;omega) (.int .i64 0));clear L3 L4;clear mV tN Ek HX HY c1;go_wp2_with fail;refine YF (v:=.tuple #[.agg #[.int .i64 0,.int .i64 0],.int .i64 5]) (by simp[results,Tryz.results16,go_sem,z0,z1]) rfl ?_
    exact⟨by rw[HV.o],BZ.o⟩
   have d1:decide ((0:Int)<(ah:Int))=false:=yC (by omega);have d2:decide (0<ah)=false:=yC c1;have N0:Y0 (ah=0):=by unfold Y0;omega
   clear c1;by_cases c1:0<dh
   ·have d3:decide ((0:Int)<(dh:Int))=true:=yD (by omega);have d4:decide (0<dh)=true:=yD c1;have HV:Y0 (bQ P=.tuple #[.agg #[.int .i64 0,.int .i64 0],.int .i64 5]):=tN.o (by obtain⟨e1,e2,-⟩:=mV.o;have:=HX.o;have:=HY.o;omega);have r0:=HK.o.r.cell 0;have g0:=HK.o.r.frozen 0;have L3:=HK.o.r.set_ 0 (.int .i64 0);have r1:=L3.cell 1;have g1:=L3.frozen 1;have L4:=L3.set_ 1 (.int .i64 0);have z0:=L4.cell 0
    have z1:=L4.cell 1;simp only[aw,av,au,aB,aD,aA] at r0 r1 z0 z1;have BZ:=zh ((HK.o.bel.setCell (p:=⟨w.heap.size+1+1,0,none⟩) (by show w.heap.size≤w.heap.size+1+1;omega) (.int .i64 0)).setCell (p:=⟨w.heap.size+1+1,1,none⟩) (by show w.heap.size≤w.heap.size+1+1;omega) (.int .i64 0));clear L3 L4;clear mV tN Ek HX HY c1;go_wp2_with fail;refine YF (v:=.tuple #[.agg #[.int .i64 0,.int .i64 0],.int .i64 5]) (by simp[results,Tryz.results16,go_sem,z0,z1]) rfl ?_
    exact⟨by rw[HV.o],BZ.o⟩
   have d3:decide ((0:Int)<(dh:Int))=false:=yC (by omega);have d4:decide (0<dh)=false:=yC c1;have HV:=Ek.o neg al dl (by have:=mV.o.1;have:=HX.o;have:=N0.o;omega) (by have:=mV.o.2.1;have:=HY.o;omega) (by rw[←VP.o];exact mV.o.2.2);obtain⟨fx,fy,fz,hf⟩:=pA neg al dl;have Js:=fun W=>uO neg al dl W;rw[hf] at HV Js;have HV:=zh HV;clear hf mV tN Ek HX HY c1 N0;go_wp2_with (first|(go_at_call 57;refine (Js _).mono ?_;rintro e w11 ⟨rfl,vqN⟩;have HK:=zh (HK.o.grow vqN);have r0:=HK.o.r.cell 0;have g0:=HK.o.r.frozen 0;have L3:=HK.o.r.set_ 0 (.int .i64 fx);have r1:=L3.cell 1;have g1:=L3.frozen 1;have L4:=L3.set_ 1 (.int .i64 fy);have z0:=L4.cell 0;have z1:=L4.cell 1;simp only[aw,av,au,aB,aD,aA] at r0 r1 z0 z1;have BZ:=zh ((HK.o.bel.setCell (p:=⟨w.heap.size+1+1,0,none⟩) (by show w.heap.size≤w.heap.size+1+1;omega) (.int .i64 fx)).setCell (p:=⟨w.heap.size+1+1,1,none⟩) (by show w.heap.size≤w.heap.size+1+1;omega) (.int .i64 fy));clear L3 L4))
   refine YF (v:=.tuple #[.agg #[.int .i64 fx,.int .i64 fy],.int .i64 fz]) (by simp[results,Tryz.results16,go_sem,z0,z1]) rfl ?_;exact⟨by rw[HV.o],BZ.o⟩
