/- Lemmas. -/
import Derived.Test.YtmmhehgajkaniaaGreatDoorZ1
namespace Go.Proofs.YtmmhehgajkaniaaGreatDoor
set_option maxRecDepth 100000
set_option maxHeartbeats 40000000
open Go.RowKit Go.Shelf
theorem DW (n:Int):bits .and .u32 n 1=n%2:=by
 have h1:(BitVec.ofInt 32 1).toNat=2^1-1:=by decide
 have key:(BitVec.ofInt 32 n &&& BitVec.ofInt 32 1).toNat=(n%((2^32:Nat):Int)).toNat%2^1:=by
  rw[BitVec.toNat_and,BitVec.toNat_ofInt,h1,Nat.and_two_pow_sub_one_eq_mod]
 show IntKind.u32.wrap ((BitVec.ofInt 32 n &&& BitVec.ofInt 32 1).toNat:Nat)=n%2;rw[key,Ay];omega
theorem Lm (x t:Nat):(bits .and .u32 ((x:Int)/2^t) 1==1)=decide (x/2^t%2=1):=by
 have h1:((x:Int)/2^t)%2=((x/2^t%2:Nat):Int):=by
  rw[Int.natCast_emod,Int.natCast_ediv,Int.natCast_pow];rfl
 rw[DW,h1,Bool.eq_iff_iff,beq_iff_eq,decide_eq_true_eq];omega
theorem qv3 {o t:Nat} (ho:o<4294967296) (ht:t<32):bits .or .u32 (o:Int) ((2:Int)^t%4294967296)=((o ||| 2^t:Nat):Int):=by
 have h2:(2:Nat)^t<2^32:=Nat.pow_lt_pow_right (by decide) ht;have e:((2:Int)^t%4294967296)=((2^t:Nat):Int):=by
  have e1:((2:Int)^t)=((2^t:Nat):Int):=by rw[Int.natCast_pow];rfl
  rw[e1];have h3:(2:Nat)^32=4294967296:=rfl;rw[h3] at h2;generalize (2:Nat)^t=n at*;omega
 rw[e,uN _ _ ho h2]
theorem WAt.one (w:World):WAt (w.alloc (.cells #[.int .u32 1] 205)) (.slice (some ⟨w.heap.size,0,none⟩) 1 1) 1:=by
 refine⟨⟨some ⟨w.heap.size,0,none⟩,1,[1],rfl,⟨some ⟨w.heap.size,0,none⟩,1,rfl,yA _,by unfold maxLen;omega,fun _=>⟨w.heap.size,0,rfl,by simp,fun j u hu=>?_⟩⟩,fun x hx=>?_,fun _=>?_,rfl⟩,fun g e=>?_⟩
 ·rw[yR,(Blk.new w 205 #[.int .u32 1]).cell];simpa[pU] using hu
 ·rw[List.mem_singleton.1 hx];decide
 ·show aQ [1] 0≠0;decide
 obtain rfl:w.heap.size=g:=by simpa[Value.ownBlock] using e
 exact⟨_,_,Blk.new w 205 #[.int .u32 1]⟩
theorem qjz (v u:Value) (a b K:Nat) (w:World) (hv:WAt w v a) (hu:WAt w u b) (hK:K≤500000) (ha:a<4294967296^K) (hb:b<4294967296^K) (eH:0<b):Calls Tryz.prog 190 #[v,u] w (MakesW (a/b) w):=by
 have HU:=zh hu;obtain⟨A,c,X,rfl,hl,P4,UN,rfl⟩:=hv.1;obtain⟨A',c',Y,rfl,hm,hYo,hYt,rfl⟩:=hu.1;have hl6:X.length≤500000:=yH (jV UN ha) hK;obtain⟨_,_,e,fU,cM,aj⟩:=hl.open_;injection e with e1 _ e2;subst e1 e2;unfold maxLen at cM;have HX:=zh aj;have Hv:=zh P4;have La:Y0 (K+1≤1000000):=by unfold Y0;omega
 have HB:Y0 (wv Y<4294967296^K):=hb;have Xt:=zh eH;obtain⟨i0,jB,hH,jb,km⟩:=info_parts o9;have aZ:i0.bytes*X.length≤281474976710656:=by rw[km];omega
 clear aj hl hm P4 UN hYo hYt ha hK hb eH;go_enter Tryz.func190,Tryz.ntmps190;go_wp2_with (at_make;refine wpList_make_full _ rfl _ _ 150 rfl w.heap.size 205 i0 (.int .u32 0) 1 Tryz.underlying150 jB hH jb .i64 .i64 _ _ X.length rfl rfl rfl rfl aZ (by unfold maxLen;omega) (Nat.le_refl _) ?_;intro w4 bC bz);rw[o7] at bC;have bU:=(yB w.heap.size w).grown bz (yA _) (fun k hk=>by cases hk);have tP:Y0 (OwnW w4 w.heap.size X.length (List.replicate X.length 0)):=bC
 have jC:Y0 (DivSt (wv X) (wv Y) (32*X.length) (List.replicate X.length 0) 0):=DivSt.start (PS Hv.o) _;obtain⟨g,hg⟩:=zo (w.heap.size);have CF:w.heap.size≤g:=Nat.le_of_eq hg;rw[hg] at tP;simp only[hg];clear bC bz jB hH jb aZ hg;go_loopw [6,7] (fun rx ix wr=>∃(I r:Nat) (O:List Nat),I≤32*X.length∧ix=.int .i64 ((I:Int)-1)∧Y0 (OwnW wr g X.length O)∧Y0 (Wok O)∧Y0 (DivSt (wv X) (wv Y) I O r)∧Y0 (WAt wr rx r)∧Below w.heap.size w wr) (fun _ ix _=>(intOf ix+1).toNat)
 case atStart=>exact⟨32*X.length,0,_,yA _,by go_num,tP,Wok.zeros _,jC,WAt.nil _,bU⟩
 clear tP bU jC;obtain⟨I,r,O,hI,rfl,HO,HW,HD,HR,ai⟩:=hrel
 cases I with
 | zero=>
  have hT:=tM (some ⟨g,0,none⟩) X.length _ O _ HO.o.at_;rw[HO.o.len] at hT;have HZ:Y0 (wv O=wv X/wv Y):=HD.o.done HO.o.len (PS Hv.o);go_wp2_with fail;refine hT.mono ?_;rintro e w' ⟨rfl,rfl⟩;obtain⟨hm,ht,hv⟩:=iH O;have HT:=zh ht;have HV:=zh hv;clear ht hv hT;go_wp2_with fail;go_ret;exact⟨ai,_,rfl,WAt.of_trim HO.o HW.o hm HT.o (HV.o.trans HZ.o),vF CF⟩
 | succ i=>
  rw[show (((i+1:Nat):Int)-1)=(i:Int) by omega];have hj:i/32<X.length:=by omega
  have i0:(0:Int)≤(i:Int):=yE _;have i1:(i:Int)/32<(X.length:Int):=by omega
  have i2:((i:Int)/32).toNat=i/32:=by omega
  have i3:((i:Int)%32).toNat=i%32:=by omega
  obtain⟨b1,o1,rfl,ak,Oc⟩:=HX.o (i/32) hj;have hx:=Oc (i/32) hj;unfold pU at hx;have BP:Y0 (aQ X (i/32)=X[i/32]):=cu hj;have vx4:=zh (VS Hv.o hj);have x0:X[i/32]<4294967296:=Hv.o _ (yV hj);have KX:Y0 (r<4294967296^(K+1)):=by
   unfold Y0;have h1:=HD.o.lt Xt.o;have h2:=HB.o;rw[yW];omega
  clear Oc;generalize X[i/32]=x at*;go_wp2_with fail;refine (MH _ _ r r (K+1) _ HR.o HR.o La.o KX.o KX.o).mono ?_;rintro e w5 ⟨aR,rv,rfl,hR5,-⟩;have hx:=(ai.cell (p:=⟨b1,o1+i/32,none⟩) ak).trans hx;have hx:=(aR.cell (p:=⟨b1,o1+i/32,none⟩) (yK ak ai.size)).trans hx;have FL:=ai.trans (aR.mono ai.size);have pJ:=zh (HO.o.below aR);have pb:=zh hR5;clear HR HO ai aR hR5;have HN:Y0 (r<4294967296^K):=Nat.lt_trans (HD.o.lt Xt.o) HB.o
  rcases Nat.mod_two_eq_zero_or_one (wv X/2^i) with UF|UF
  case' inl=>
   have hq:(bits .and .u32 ((x:Int)/2^(i%32)) 1==1)=false:=by rw[Lm,←BP.o,vx4.o,UF];rfl
   have HS:Y0 (r+r=2*r+wv X/2^i%2):=by unfold Y0;omega
   clear UF;go_wp2_with fail;obtain⟨s,hs⟩:∃s,s=r+r:=⟨_,rfl⟩;rw[←hs] at pb HS;have HSr:Y0 (s≤2*r+1):=by unfold Y0;omega
   clear hs;have xX:=FL;have PH:=pJ;have vp:=pb;clear FL pJ pb hx;obtain⟨w6,rfl⟩:∃w6,w6=w5:=⟨_,rfl⟩
  case' inr=>
   have hq:(bits .and .u32 ((x:Int)/2^(i%32)) 1==1)=true:=by rw[Lm,←BP.o,vx4.o,UF];rfl
   have HS:Y0 (r+r+1=2*r+wv X/2^i%2):=by unfold Y0;omega
   clear UF;go_wp2_with fail;refine (MH _ _ (r+r) 1 (K+1) _ (pb.o.grow ((yB _ _).alloc (yA _) _)) (WAt.one _) La.o (by have:=HN.o;rw[yW];omega) (Nat.one_lt_pow (by omega) (by decide))).mono ?_;rintro e w6 ⟨ie,rv,rfl,hR6,-⟩;have ie:=((yB _ w5).alloc (yA _) _).trans (ie.mono (by simp));have xX:=FL.trans (ie.mono FL.size);have PH:=zh (pJ.o.below ie);have vp:=zh hR6;clear pJ FL ie hR6 pb hx;obtain⟨s,hs⟩:∃s,s=r+r+1:=⟨_,rfl⟩
   rw[←hs] at vp HS;have HSr:Y0 (s≤2*r+1):=by unfold Y0;omega
   clear hs;go_wp2_with fail
  all_goals
   have HU6:=zh (HU.o.grow xX);refine (VQ _ _ s (wv Y) _ vp.o HU6.o).mono ?_;rintro e w7 ⟨⟨q7,rfl⟩,c7,rfl,-,Mn⟩;by_cases hge:wv Y≤s
   ·have hd:decide (0≤c7)=true:=by rw[Mn];exact yD hge
    clear Mn;have HG:=zh hge;clear hge;go_wp2_with fail;refine (zm _ _ s (wv Y) (K+1) _ (vp.o.drewN q7) (HU6.o.drewN q7) La.o (by have:=HN.o;have:=HSr.o;rw[yW];omega) HG.o).mono ?_;rintro e w8 ⟨aJ,rv8,rfl,Bz,hN8⟩;have aJ:Below w6.heap.size w6 w8:=(Zf (yB _ _) q7).trans aJ;have qjm:=xX.trans (aJ.mono xX.size);have HO8:=zh (PH.o.below aJ);have qf:=zh Bz;have HgN:Y0 (rv8.ownBlock≠some g):=fun e=>by
     have h1:=hN8 g e;have h2:=PH.o.lt;have h3:(w6.drewN q7).heap.size=w6.heap.size:=rfl;omega
    have hj2:i/32<O.length:=by rw[HO8.o.len];exact hj
    have bj:=zh (HD.o.yes Xt.o hj2 HS.o HG.o);have z1:=HO8.o.cell hj;have z2:=HO8.o.frozen (i/32);have vvC:Y0 (bits .or .u32 ((aQ O (i/32):Nat):Int) ((2:Int)^(i%32)%4294967296)=((aQ O (i/32) ||| 2^(i%32):Nat):Int)):=qv3 (gQ HW.o _) (YJ _ (by decide));have HOr:Y0 (aQ O (i/32) ||| 2^(i%32)<4294967296):=Nat.or_lt_two_pow (n:=32) (gQ HW.o _) (Nat.pow_lt_pow_right (by decide) (YJ _ (by decide)));clear PH vp aJ Bz hN8 xX HU6 HD
    go_wp2_with fail;refine bP 10 (by kernel_rfl) (by kernel_rfl) ?_;simp only[aM,aP,aN,aO]
    repeat (go_big_quiet_step (fail))
    refine YE ?_;go_wp2_with fail;rw[vvC.o];have HO9:Y0 (OwnW ((w8.setCell ⟨g,i/32,none⟩ (.int .u32 ((aQ O (i/32) ||| 2^(i%32):Nat):Int))).drew) g X.length (O.set (i/32) (aQ O (i/32) ||| 2^(i%32)))):=(HO8.o.set_ (i/32) _).drewN 1;have HW9:Y0 (Wok (O.set (i/32) (aQ O (i/32) ||| 2^(i%32)))):=HW.o.set _ HOr.o;have Hy:Y0 (WAt ((w8.setCell ⟨g,i/32,none⟩ (.int .u32 ((aQ O (i/32) ||| 2^(i%32):Nat):Int))).drew) rv8 (s-wv Y)):=(qf.o.other g (i/32) _ HgN.o).drewN 1
    have nG:Y0 (Below w.heap.size w ((w8.setCell ⟨g,i/32,none⟩ (.int .u32 ((aQ O (i/32) ||| 2^(i%32):Nat):Int))).drew)):=(qjm.setCell (p:=⟨g,i/32,none⟩) CF _).drew;clear HO8 qf qjm z1 z2 HW;go_roundw
    case rel=>exact⟨i,s-wv Y,_,by omega,by go_num,HO9,HW9,bj,Hy,nG.o⟩
    simp[intOf]
   have hd:decide (0≤c7)=false:=by rw[Mn];exact yC hge
   clear Mn;have bj:=zh (HD.o.no Xt.o HS.o (Nat.not_le.1 hge));have HO8:=zh (PH.o.drewN q7);have qf:=zh (vp.o.drewN q7);have ep:=zh (Zf xX q7);clear hge PH vp xX HU6 HD;go_wp2_with fail;go_roundw
   case rel=>exact⟨i,s,O,by omega,by go_num,HO8,HW,bj,qf,ep.o⟩
   simp[intOf]
theorem yi {a b:Nat} (ha:a%2=0) (hb:b%2=1):Nat.gcd (a/2) b=Nat.gcd a b:=by
 have e:a=2*(a/2):=by omega
 conv=>rhs;rw[e]
 exact (Nat.Coprime.gcd_mul_left_cancel _ (by unfold Nat.Coprime;rw[Nat.gcd_rec,hb];rfl)).symm
theorem K9 {a b:Nat} (ha:a%2=1) (hb:b%2=0):Nat.gcd a (b/2)=Nat.gcd a b:=by
 rw[Nat.gcd_comm,yi hb ha,Nat.gcd_comm]
theorem Ah {a b:Nat} (ha:a%2=0) (hb:b%2=0):Nat.gcd a b=2*Nat.gcd (a/2) (b/2):=by
 rw[←Nat.gcd_mul_left];congr 1 <;> omega
theorem Vg {a b:Nat} (h:b≤a):Nat.gcd (a-b) b=Nat.gcd a b:=Nat.gcd_sub_self_left h
theorem rP {n d:Int} (hd:d≠0):(Rat.divInt n d).num.natAbs=n.natAbs/Nat.gcd n.natAbs d.natAbs∧(Rat.divInt n d).den=d.natAbs/Nat.gcd n.natAbs d.natAbs:=by
 have hg:Int.gcd d n=Nat.gcd n.natAbs d.natAbs:=by rw[Int.gcd_comm];rfl
 rw[Rat.num_divInt,Rat.den_divInt,if_neg hd,hg];refine⟨?_,rfl⟩;have hdv:((Nat.gcd n.natAbs d.natAbs:Nat):Int)∣d.sign*n:=Int.dvd_mul_of_dvd_right (Int.ofNat_dvd_left.2 (Nat.gcd_dvd_left _ _));rw[Int.natAbs_ediv_of_dvd hdv,Int.natAbs_natCast,Int.natAbs_mul,Int.natAbs_sign_of_ne_zero hd,Nat.one_mul]
theorem LR {n d:Int} (hd:d≠0) (hn:n≠0):(Rat.divInt n d).num<0↔((n<0∧0<d)∨(0<n∧d<0)):=by
 have hg:Int.gcd d n=Nat.gcd n.natAbs d.natAbs:=by rw[Int.gcd_comm];rfl
 have Hj:0<Nat.gcd n.natAbs d.natAbs:=Nat.gcd_pos_of_pos_left _ (by omega);rw[Rat.num_divInt,hg];obtain⟨m,hm⟩:((Nat.gcd n.natAbs d.natAbs:Nat):Int)∣n:=Int.ofNat_dvd_left.2 (Nat.gcd_dvd_left _ _);have Mm:(0:Int)<((Nat.gcd n.natAbs d.natAbs:Nat):Int):=by omega
 generalize ((Nat.gcd n.natAbs d.natAbs:Nat):Int)=g at*;have e:d.sign*n=g*(d.sign*m):=by rw[hm,Int.mul_left_comm]
 have hm0:(n<0↔m<0)∧(0<n↔0<m):=by
  rw[hm];refine⟨⟨fun h=>?_,fun h=>Int.mul_neg_of_pos_of_neg Mm h⟩,⟨fun h=>?_,fun h=>Int.mul_pos Mm h⟩⟩
  ·by_cases h0:0≤m
   ·have:=Int.mul_nonneg (Int.le_of_lt Mm) h0;omega
   omega
  by_cases h0:0<m
  ·exact h0
  have:=Int.mul_nonneg (Int.le_of_lt Mm) (show 0 ≤ -m by omega);rw[Int.mul_neg] at this;omega
 rw[e,Int.mul_ediv_cancel_left _ (by omega)];rcases Int.lt_or_lt_of_ne hd with h|h
 ·rw[Int.sign_eq_neg_one_of_neg h];omega
 rw[Int.sign_eq_one_of_pos h];omega
theorem L0 (a b:Rat):a+b=Rat.divInt (a.num*b.den+b.num*a.den) ((a.den*b.den:Nat):Int):=by rw[Rat.add_def',Rat.divInt_ofNat]
theorem Ly (a b:Rat):a*b=Rat.divInt (a.num*b.num) ((a.den*b.den:Nat):Int):=by rw[Rat.mul_def,Rat.divInt_ofNat,Rat.mkRat_def,dif_neg]
theorem Lz (a b:Rat):a/b=Rat.divInt (a.num*b.den) (a.den*b.num):=by
 rw[Rat.div_def,Rat.inv_def]
 conv=>lhs;rw[←Rat.num_divInt_den a]
 rw[Rat.divInt_mul_divInt]
open Go.RowKit Go.Shelf
def vwM (z:Nat) (w:World) (e:Ending) (w':World):Prop:=Below w.heap.size w w'∧∃v,e=.returned v∧WAt w' v z
theorem WAt.first {w:World} {v:Value} {z:Nat} (h:WAt w v z) (hz:0<z):∃(b off n c x:Nat),v=.slice (some ⟨b,off,none⟩) n c∧0<n∧n≤9223372036854775807∧w.cell? ⟨b,off,none⟩=some (.int .u32 (x:Int))∧x<4294967296∧x%2=z%2:=by
 obtain⟨A,c,L,rfl,hl,Ky,Kx,rfl⟩:=h.1;obtain⟨_,_,e,fU,cM,aj⟩:=hl.open_;injection e with e1 _ e2;subst e1 e2;have hp:0<L.length:=by
  rcases Nat.eq_zero_or_pos L.length with h|h
  ·rw[List.length_eq_zero_iff.1 h] at hz;exact absurd hz (by decide)
  exact h
 obtain⟨b,off,rfl,-,hx⟩:=aj 0 hp;have h0:=hx 0 hp;have hb:=VS Ky (i:=0) hp;rw[Nat.zero_div,Nat.zero_mod,Nat.pow_zero,Nat.div_one,Nat.div_one,cu hp] at hb;unfold maxLen at cM;exact⟨b,off,L.length,c,L[0],rfl,hp,by omega,h0,Ky _ (yV hp),hb⟩
theorem WAt.zero {w:World} {v:Value} (h:WAt w v 0):∃A c,v=.slice A 0 c:=by
 obtain⟨A,c,L,rfl,hl,Ky,Kx,hz⟩:=h.1;rw[(Lh Kx).1 hz];exact⟨A,c,rfl⟩
theorem DV (x:Nat):(bits .and .u32 (x:Int) 1==0)=decide (x%2=0):=by
 rw[DW,Bool.eq_iff_iff,beq_iff_eq,decide_eq_true_eq];omega
theorem su {x z:Nat} (h:x%2=z%2) (hz:z%2=0):(bits .and .u32 (x:Int) 1==0)=true:=by rw[DV];exact yD (by omega)
theorem vT {x z:Nat} (h:x%2=z%2) (hz:¬z%2=0):(bits .and .u32 (x:Int) 1==0)=false:=by rw[DV];exact yC (by omega)
structure Twos (M a b t x y:Nat):Prop where
 x0:0<x
 y0:0<y
 xm:2^t*x<M
 ym:y<M
 g:Nat.gcd a b=2^t*Nat.gcd x y
theorem Twos.half {M a b t x y:Nat} (h:Twos M a b t x y) (hx:x%2=0) (hy:y%2=0):Twos M a b (t+1) (x/2) (y/2):=by
 have Uq:=h.x0;have hy0:=h.y0;have hxm:=h.xm;have hym:=h.ym;refine⟨by omega,by omega,?_,by omega,?_⟩
 ·rw[yW,yY,show 2*(x/2)=x by omega];exact hxm
 rw[h.g,Ah hx hy,yW,yY]
theorem Twos.xlt {M a b t x y:Nat} (h:Twos M a b t x y):x<M:=Nat.lt_of_le_of_lt (Nat.le_mul_of_pos_left _ (Nat.two_pow_pos t)) h.xm
theorem Twos.few {K a b t x y:Nat} (h:Twos (4294967296^K) a b t x y):t<32*K:=by
 have h1:2^t*1≤2^t*x:=Nat.mul_le_mul_left _ h.x0;have h2:=h.xm;rw[oX] at h2;rw[Nat.mul_one] at h1;exact (Nat.pow_lt_pow_iff_right (a:=2) (by decide)).1 (Nat.lt_of_le_of_lt h1 h2)
theorem Twos.glt {M a b t x y:Nat} (h:Twos M a b t x y):2^t*Nat.gcd x y<M:=Nat.lt_of_le_of_lt (Nat.mul_le_mul_left _ (Nat.gcd_le_left _ h.x0)) h.xm
structure Stn (M G x y:Nat):Prop where
 y0:0<y
 xm:x<M
 ym:y<M
 g:Nat.gcd x y=G
 odd:x%2=1∨y%2=1
theorem Stn.left {M G x y:Nat} (h:Stn M G x y) (hx:x%2=0):Stn M G (x/2) y:=by
 have hxm:=h.xm;have ho:y%2=1:=by have:=h.odd;omega
 exact⟨h.y0,by omega,h.ym,by rw[yi hx ho];exact h.g,.inr ho⟩
theorem Stn.right {M G x y:Nat} (h:Stn M G x y) (hx:x%2=1) (hy:y%2=0):Stn M G x (y/2):=by
 have hy0:=h.y0;have hym:=h.ym;exact⟨by omega,h.xm,by omega,by rw[K9 hx hy];exact h.g,.inl hx⟩
theorem Stn.swap {M G x y:Nat} (h:Stn M G x y) (hx:x%2=1):Stn M G y x:=⟨by omega,h.ym,h.xm,by rw[Nat.gcd_comm];exact h.g,.inr hx⟩
theorem Stn.diff {M G x y:Nat} (h:Stn M G x y) (hy:y%2=1) (ko:y≤x):Stn M G (x-y) y:=by
 have hxm:=h.xm;exact⟨h.y0,by omega,h.ym,by rw[Vg ko];exact h.g,.inr hy⟩
theorem VP (v u:Value) (a b K:Nat) (w:World) (hv:WAt w v a) (hu:WAt w u b) (hK:K≤500000) (ha:a<4294967296^K) (hb:b<4294967296^K) (DG:0<a) (eH:0<b):Calls Tryz.prog 189 #[v,u] w (vwM (Nat.gcd a b) w):=by
 have HA:=zh hv;have HB:=zh hu;have HK:Y0 (K≤500000):=hK;have La:Y0 (K≤1000000):=by unfold Y0;omega
 have HS:Y0 (Twos (4294967296^K) a b 0 a b):=⟨DG,eH,by rw[Nat.pow_zero,Nat.one_mul];exact ha,hb,by rw[Nat.pow_zero,Nat.one_mul]⟩;clear hv hu hK ha hb DG eH;go_enter Tryz.func189,Tryz.ntmps189;go_wp2_with fail;go_loopg [0,1,5] a (fun gk va vb tw wr=>∃y t:Nat,tw=.int .i64 t∧Y0 (WAt wr va gk)∧Y0 (WAt wr vb y)∧Y0 (Twos (4294967296^K) a b t gk y)∧Below w.heap.size w wr)
 case atStart=>exact⟨b,0,rfl,HA,HB,HS,yB _ _⟩
 clear HA HB HS;obtain⟨y,t,rfl,HA,HB,HS,ai⟩:=hrel;obtain⟨x,rfl⟩:∃x,x=gk:=⟨_,rfl⟩;have PR:=HA;have Pn:=HB;obtain⟨b1,o1,n1,c1,x1,rfl,Me,Mf,fU,rV,he1⟩:=HA.o.first HS.o.x0;obtain⟨b2,o2,n2,c2,x2,rfl,Ux,Yy,cM,sO,he2⟩:=HB.o.first HS.o.y0;have ht:t<16000000:=by have:=HS.o.few;have:=HK.o;omega
 have n1i:(0:Int)<(n1:Int):=by omega
 have n2i:(0:Int)<(n2:Int):=by omega
 by_cases hx:x%2=0
 case' pos=>
  have q1:=su he1 hx;by_cases hy:y%2=0
  case' pos=>
   have q2:=su he2 hy;have iw:=zh (HS.o.half hx hy);clear hx hy he1 he2;go_wp2_with fail;refine (De _ x K _ PR.o La.o HS.o.xlt).mono ?_;rintro e w5 ⟨aR,va,rfl,UU,-⟩;have Po:=zh UU;have cJ:=zh (Pn.o.grow aR);clear fU cM UU;go_wp2_with fail;refine (De _ y K _ cJ.o La.o HS.o.ym).mono ?_;rintro e w6 ⟨ie,vb,rfl,hB6,-⟩;have HA6:=zh (Po.o.grow ie);have kH:=zh hB6;have k7:=zh (ai.trans ((aR.trans (ie.mono aR.size)).mono ai.size))
   clear hB6 aR ie Po cJ ai HA HB PR Pn;have ao:Y0 (x/2<x):=Nat.div_lt_self HS.o.x0 (by decide);clear HS;go_wp2_with fail;go_roundg (x/2)
   case rel=>exact⟨y/2,t+1,by go_num,HA6,kH,iw,k7.o⟩
   exact ao.o
  case' neg=>
   have q2:=vT he2 hy;have HT:Y0 (Stn (4294967296^K) (Nat.gcd x y) x y):=⟨HS.o.y0,HS.o.xlt,HS.o.ym,rfl,.inr (by omega)⟩;clear hx hy he1 he2;go_wp2_with fail
 case' neg=>
  have q1:=vT he1 hx;have HT:Y0 (Stn (4294967296^K) (Nat.gcd x y) x y):=⟨HS.o.y0,HS.o.xlt,HS.o.ym,rfl,.inl (by omega)⟩;clear hx he1 he2;go_wp2_with fail
 all_goals
  have HF:Y0 (2^t*Nat.gcd x y<4294967296^K):=HS.o.glt;have HG:Y0 (Nat.gcd a b=2^t*Nat.gcd x y):=HS.o.g;obtain⟨wo,rfl⟩:∃wo:World,wo=wr:=⟨_,rfl⟩;obtain⟨G,Pf⟩:∃G,Y0 (Nat.gcd x y=G):=⟨_,rfl⟩;rw[Pf.o] at HF HG HT;clear fU cM HS q1;go_loopg [0,1] (x+y) (fun gk va vb wr=>∃x2 y2:Nat,x2+y2=gk∧Y0 (WAt wr va x2)∧Y0 (WAt wr vb y2)∧Y0 (Stn (4294967296^K) G x2 y2)∧Below w.heap.size w wr)
  case atStart=>exact⟨x,y,rfl,PR,Pn,HT,ai⟩
  clear HA HB PR Pn HT ai Pf;obtain⟨x2,y2,rfl,HA,HB,HS,ai⟩:=hrel;rcases Nat.eq_zero_or_pos x2 with h0|h0
  ·subst h0;obtain⟨A,c,rfl⟩:=HA.o.zero;have HGy:Y0 (y2=G):=by
    unfold Y0;rw[←HS.o.g,Nat.gcd_zero_left]
   clear HS HA;rw[HGy.o] at HB;clear HGy;go_wp2_with fail;go_loopw [1,51] (fun vb jx wr=>∃j:Nat,j≤t∧jx=.int .i64 j∧Y0 (WAt wr vb (2^j*G))∧Below w.heap.size w wr) (fun _ jx _=>t-(intOf jx).toNat)
   case atStart=>exact⟨0,yI _,rfl,by rw[Nat.pow_zero,Nat.one_mul];exact HB,ai⟩
   clear HB ai;obtain⟨j,hj,rfl,HB,ai⟩:=hrel;by_cases hjt:j<t
   ·have HL:Y0 (2^j*G<4294967296^K):=Nat.lt_of_le_of_lt (Nat.mul_le_mul_right _ (Nat.pow_le_pow_right (by decide) hj)) HF.o;have HE:Y0 (2^j*G+2^j*G=2^(j+1)*G):=by unfold Y0;rw[Nat.pow_succ,Nat.mul_assoc,Nat.mul_left_comm];omega
    go_wp2_with fail;refine (MH _ _ (2^j*G) (2^j*G) K _ HB.o HB.o La.o HL.o HL.o).mono ?_;rintro e w5 ⟨aR,vb5,rfl,Oo,-⟩;rw[HE.o] at Oo;have cJ:=zh Oo;have k7:=zh (ai.trans (aR.mono ai.size));clear aR Oo HE HL HB ai;go_wp2_with fail;go_roundw
    case rel=>exact⟨j+1,by omega,by go_num,cJ,k7.o⟩
    simp[intOf];omega
   obtain rfl:j=t:=by omega
   go_wp2_with fail;go_ret;exact⟨ai,_,rfl,by rw[HG.o];exact HB.o⟩
  have PR:=HA;obtain⟨b3,o3,n3,c3,x3,rfl,hn3,hm3,hc3,hl3,he3⟩:=HA.o.first h0;have H0:=zh h0;have Dy:=HB;obtain⟨bb,ob,nb,cb,zb,rfl,-,-,-,-,-⟩:=HB.o.first HS.o.y0;clear hc3 hl3 he3 h0 HA HB;have HB:=Dy;clear Dy;have hn:(0:Int)<(n3:Int):=by omega
  go_wp2_with fail;obtain⟨wo2,rfl⟩:∃wo2:World,wo2=wr:=⟨_,rfl⟩;go_loopg [0] x2 (fun gk va wr=>Y0 (WAt wr va gk)∧Y0 (WAt wr (.slice (some ⟨bb,ob,none⟩) nb cb) y2)∧Y0 (Stn (4294967296^K) G gk y2)∧Y0 (0<gk∧gk≤x2)∧Below w.heap.size w wr)
  case atStart=>exact⟨PR,HB,HS,⟨H0.o,yA _⟩,ai⟩
  clear PR HB HS H0 ai;obtain⟨HA,HB,HS,HR,ai⟩:=hrel;obtain⟨x4,rfl⟩:∃x4,x4=gk:=⟨_,rfl⟩;have PR:=HA;obtain⟨b4,o4,n4,c4,z4,rfl,hn4,hm4,hc4,hl4,he4⟩:=HA.o.first HR.o.1;clear HA;have vvS:(0:Int)<(n4:Int):=by omega
  by_cases oG:x4%2=0
  ·have q1:=su he4 oG;have dY:=zh (HS.o.left oG);have pb:Y0 (0<x4/2∧x4/2≤x2):=by have:=HR.o;unfold Y0;omega
   have MO:Y0 (x4/2<x4):=Nat.div_lt_self HR.o.1 (by decide);clear oG he4;go_wp2_with fail;refine (De _ x4 K _ PR.o La.o HS.o.xm).mono ?_;rintro e w5 ⟨aR,va5,rfl,UU,-⟩;have Po:=zh UU;have cJ:=zh (HB.o.grow aR);have k7:=zh (ai.trans (aR.mono ai.size));clear aR UU HB ai PR hc4 HS HR q1;go_wp2_with fail;go_roundg (x4/2)
   case rel=>exact⟨Po,cJ,dY,pb,k7.o⟩
   exact MO.o
  have q1:=vT he4 oG;have Wz:Y0 (x4%2=1):=by unfold Y0;omega
  clear oG he4;go_wp2_with fail;obtain⟨wo3,rfl⟩:∃wo3:World,wo3=wr:=⟨_,rfl⟩;clear hc4 q1;go_loopg [1] y2 (fun gk vb wr=>Y0 (WAt wr (.slice (some ⟨b4,o4,none⟩) n4 c4) x4)∧Y0 (WAt wr vb gk)∧Y0 (Stn (4294967296^K) G x4 gk)∧Y0 (gk≤y2)∧Below w.heap.size w wr)
  case atStart=>exact⟨PR,HB,HS,yA _,ai⟩
  clear PR HB HS ai;obtain⟨HA,HB,HS,HY,ai⟩:=hrel;obtain⟨y4,rfl⟩:∃y4,y4=gk:=⟨_,rfl⟩;have Pn:=HB;obtain⟨b5,o5,n5,c5,z5,rfl,hn5,hm5,hc5,hl5,he5⟩:=HB.o.first HS.o.y0;clear HB;have vvR:(0:Int)<(n5:Int):=by omega
  by_cases oG:y4%2=0
  ·have q1:=su he5 oG;have dY:=zh (HS.o.right Wz.o oG);have HY5:Y0 (y4/2≤y2):=by have:=HY.o;unfold Y0;omega
   have MO:Y0 (y4/2<y4):=Nat.div_lt_self HS.o.y0 (by decide);clear oG he5;go_wp2_with fail;refine (De _ y4 K _ Pn.o La.o HS.o.ym).mono ?_;rintro e w5 ⟨aR,vb5,rfl,Oo,-⟩;have cJ:=zh Oo;have Po:=zh (HA.o.grow aR);have k7:=zh (ai.trans (aR.mono ai.size));clear aR Oo Pn ai HA hc5 HS HY q1;go_wp2_with fail;go_roundg (y4/2)
   case rel=>exact⟨Po,cJ,dY,HY5,k7.o⟩
   exact MO.o
  have q1:=vT he5 oG;have HOy:Y0 (y4%2=1):=by unfold Y0;omega
  clear oG he5;go_wp2_with fail;refine (VQ _ _ x4 y4 _ HA.o Pn.o).mono ?_;rintro e w7 ⟨⟨q7,rfl⟩,r7,rfl,Mn,-⟩;have WR:=zh (HA.o.drewN q7);have pd:=zh (Pn.o.drewN q7);have k7:=zh (Zf ai q7);clear HA Pn ai hc5 q1;by_cases ao:x4<y4
  ·have hd:decide (r7<0)=true:=by rw[Mn];exact yD ao
   have uT:=zh (YG ao);have dP:=zh ((HS.o.swap Wz.o).diff Wz.o (YG ao));have HM:Y0 (y4-x4+x4<x2+y2):=by have:=HR.o;have:=HY.o;unfold Y0;omega
   clear ao Mn;go_wp2_with fail;refine (zm _ _ y4 x4 K _ pd.o WR.o La.o HS.o.ym uT.o).mono ?_;rintro e w8 ⟨aJ,v8,rfl,Bz,-⟩;have qf:=zh Bz;have HA8:=zh (WR.o.grow aJ);have ep:=zh (k7.o.trans (aJ.mono k7.o.size));clear aJ Bz WR pd k7 HS;go_wp2_with fail;go_roundg (y4-x4+x4)
   case rel=>exact⟨y4-x4,x4,rfl,qf,HA8,dP,ep.o⟩
   exact HM.o
  have hd:decide (r7<0)=false:=by rw[Mn];exact yC ao
  have uT:=zh (Nat.not_lt.1 ao);have dP:=zh (HS.o.diff HOy.o (Nat.not_lt.1 ao));have HM:Y0 (x4-y4+y4<x2+y2):=by have:=HR.o;have:=HY.o;have:=HS.o.y0;unfold Y0;omega
  clear ao Mn;go_wp2_with fail;refine (zm _ _ x4 y4 K _ WR.o pd.o La.o HS.o.xm uT.o).mono ?_;rintro e w8 ⟨aJ,v8,rfl,Bz,-⟩;have qf:=zh Bz;have ep:=zh (pd.o.grow aJ);have Dz:=zh (k7.o.trans (aJ.mono k7.o.size));clear aJ Bz WR pd k7 HS;go_wp2_with fail;go_roundg (x4-y4+y4)
  case rel=>exact⟨x4-y4,y4,rfl,qf,ep,dP,Dz.o⟩
  exact HM.o
def NumAt (w:World) (v:Value) (z:Int):Prop:=∃(neg:Bool) (s:Value) (m:Nat),v=.agg #[.bool neg,s]∧WAt w s m∧z=if neg=true then -(m:Int) else m
theorem NumAt.grow {w w':World} {v:Value} {z:Int} (h:NumAt w v z) (hb:Below w.heap.size w w'):NumAt w' v z:=by
 obtain⟨neg,s,m,h1,h2,h3⟩:=h;exact⟨neg,s,m,h1,h2.grow hb,h3⟩
theorem WAt.setBox {w:World} {v:Value} {z D:Nat} {t:TypeId} {cs:Array Value} (h:WAt w v z) (hD:Blk w D t cs) (ht:t≠205) (i:Nat) (x:Value):WAt (w.setCell ⟨D,i,none⟩ x) v z:=h.other D i x (h.apart hD ht)
theorem NumAt.setBox {w:World} {v:Value} {z:Int} {D:Nat} {t:TypeId} {cs:Array Value} (h:NumAt w v z) (hD:Blk w D t cs) (ht:t≠205) (i:Nat) (x:Value):NumAt (w.setCell ⟨D,i,none⟩ x) v z:=by
 obtain⟨neg,s,m,h1,h2,h3⟩:=h;exact⟨neg,s,m,h1,h2.setBox hD ht i x,h3⟩
theorem NumAt.kept {w w':World} {v:Value} {z:Int} {row:Option Nat} {t:TypeId} (h:NumAt w v z) (kB:w.grownBy w' row) (hg:∀g,row=some g→∃cs r,w.heap[g]?=some (.cells cs t r)) (ht:t≠205):NumAt w' v z:=by
 obtain⟨neg,s,m,h1,h2,h3⟩:=h;refine⟨neg,s,m,h1,h2.kept kB (fun g e=>?_),h3⟩;obtain⟨cs,r,e1⟩:=hg g e;exact h2.apart e1 ht
theorem NumAt.form {w:World} {v:Value} {z:Int} (h:NumAt w v z):∃n A l c,v=.agg #[.bool n,.slice A l c]∧l≤9223372036854775807:=by
 obtain⟨neg,s,m,rfl,⟨⟨A,c,L,rfl,hl,-⟩,-⟩,-⟩:=h;obtain⟨_,_,e,fU,cM,-⟩:=hl.open_;injection e with e1 _ e2;subst e1 e2;unfold maxLen at cM;exact⟨neg,A,_,c,rfl,by omega⟩
def MakesN (z:Int) (w:World) (e:Ending) (w':World):Prop:=Below w.heap.size w w'∧∃v,e=.returned v∧NumAt w' v z
theorem bV (w:World) (t1 t2 t3:TypeId) (c1 c2 c3:Array Value) :
  Blk (((w.alloc (.cells c1 t1)).alloc (.cells c2 t2)).alloc (.cells c3 t3)) w.heap.size t1 c1∧Blk (((w.alloc (.cells c1 t1)).alloc (.cells c2 t2)).alloc (.cells c3 t3)) (w.heap.size+1) t2 c2 ∧
   Blk (((w.alloc (.cells c1 t1)).alloc (.cells c2 t2)).alloc (.cells c3 t3)) (w.heap.size+1+1) t3 c3∧Below w.heap.size w (((w.alloc (.cells c1 t1)).alloc (.cells c2 t2)).alloc (.cells c3 t3)):=by
 refine⟨((Blk.new w t1 c1).alloc _).alloc _,?_,?_,(((yB _ _).alloc (yA _) _).alloc (by simp) _).alloc (by simp;omega) _⟩
 ·have:=(Blk.new (w.alloc (.cells c1 t1)) t2 c2).alloc (.cells c3 t3);simpa using this
 have:=Blk.new ((w.alloc (.cells c1 t1)).alloc (.cells c2 t2)) t3 c3;simpa using this
def iy (z:Int):Int:=if z=0 then 0 else if z<0 then -1 else 1
theorem VK (v:Value) (z:Int) (w:World) (hv:NumAt w v z):Calls Tryz.prog 152 #[v] w fun e w'=>e=.returned (.int .i64 (iy z))∧Below w.heap.size w w':=by
 obtain⟨neg,s,m,rfl,⟨⟨A,c,L,rfl,hl,Ky,Kx,rfl⟩,-⟩,hz⟩:=hv;obtain⟨_,_,e,fU,cM,-⟩:=hl.open_;injection e with e1 _ e2;subst e1 e2;unfold maxLen at cM;have hH:=Lh Kx;have DD:Below w.heap.size w (w.alloc (.cells #[.bool neg,.slice A L.length c] 152)):=(yB _ _).alloc (yA _) _;by_cases h0:L.length=0
 ·have HV:Y0 (iy z=0):=by
   unfold Y0 iy;rw[hz,hH.2 (List.length_eq_zero_iff.1 h0)];simp
  have hd:((L.length:Int)==0)=true:=beq_iff_eq.2 (by omega);clear hl Ky Kx hH hz h0;go_enter Tryz.func152,Tryz.ntmps152;go_wp2_with fail;go_ret;exact⟨eK HV.o.symm,DD⟩
 have hp:0<wv L:=by
  rcases Nat.eq_zero_or_pos (wv L) with h|h
  ·exact absurd (by rw[hH.1 h];rfl) h0
  exact h
 have hd:((L.length:Int)==0)=false:=zb (by omega);cases neg
 case true=>
  have HV:Y0 (iy z=-1):=by
   unfold Y0 iy;rw[hz,if_pos rfl,if_neg (by omega),if_pos (by omega)]
  clear hl Ky Kx hH hz h0 hp;go_enter Tryz.func152,Tryz.ntmps152;go_wp2_with fail;go_ret;exact⟨eK HV.o.symm,DD⟩
 have HV:Y0 (iy z=1):=by
  unfold Y0 iy;simp only[Bool.false_eq_true,if_false] at hz;rw[hz,if_neg (by omega),if_neg (by omega)]
 clear hl Ky Kx hH hz h0 hp;go_enter Tryz.func152,Tryz.ntmps152;go_wp2_with fail;go_ret;exact⟨eK HV.o.symm,DD⟩
theorem VN (v:Value) (z:Int) (w:World) (hv:NumAt w v z):Calls Tryz.prog 160 #[v] w (MakesN (-z) w):=by
 obtain⟨neg,s,m,rfl,hW,hz⟩:=hv;have HW:=zh hW;have HZ:Y0 (-z=if (!neg)=true then -(m:Int) else m):=by
  unfold Y0;rw[hz];cases neg <;> simp
 obtain⟨A,c,L,rfl,-,-,-,-⟩:=hW.1;clear hz;go_enter Tryz.func160,Tryz.ntmps160;go_wp2_with fail;refine YF (v:=.agg #[.bool (!neg),.slice A L.length c]) (by simp[results,Tryz.results160,go_sem]) rfl ?_;have aU:Below w.heap.size w ((w.alloc (.cells #[.bool neg,.slice A L.length c] 152)).alloc (.cells #[.bool !neg,.slice A L.length c] 152)):=((yB _ _).alloc (yA _) _).alloc (by simp) _;exact⟨aU,_,rfl,!neg,_,m,rfl,HW.o.grow aU,HZ.o⟩
theorem Yf {O:List Nat} {n p x y cy R:Nat} (hp:p<O.length) (hn:O.length=n) (h:aw (aQ O) n+4294967296^p*cy=R) :
  aw (aQ (O.set p ((x*y+aQ O p+cy)%4294967296))) n+4294967296^(p+1)*((x*y+aQ O p+cy)/4294967296)=R+4294967296^p*(x*y):=by
 have h1:=nR (L:=O) (x:=(x*y+aQ O p+cy)%4294967296) hp n (by omega);have h2:4294967296^p*((x*y+aQ O p+cy)%4294967296)+4294967296^(p+1)*((x*y+aQ O p+cy)/4294967296)=4294967296^p*(x*y+aQ O p+cy):=by
  rw[yW,yY,←yX];congr 1
  have:=YI (x*y+aQ O p+cy) 4294967296;omega
 have h3:4294967296^p*(x*y+aQ O p+cy)=4294967296^p*(x*y)+4294967296^p*aQ O p+4294967296^p*cy:=by rw[yX,yX]
 generalize 4294967296^p*((x*y+aQ O p+cy)%4294967296)=u at*;generalize 4294967296^(p+1)*((x*y+aQ O p+cy)/4294967296)=v at*;generalize 4294967296^p*(x*y)=z at*;generalize 4294967296^p*aQ O p=s at*;generalize 4294967296^p*cy=t at*;omega
theorem TP {O:List Nat} {n p cy R:Nat} (hp:p<O.length) (hn:O.length=n) (h0:aQ O p=0) (h:aw (aQ O) n+4294967296^p*cy=R):aw (aQ (O.set p cy)) n=R:=by
 have h1:=nR (L:=O) (x:=cy) hp n (by omega);rw[h0,Nat.mul_zero] at h1;omega
theorem Yh {i k a x y:Nat} {Y:Nat→Nat} (hy:y=Y k):a+4294967296^i*(x*aw Y k)+4294967296^(i+k)*(x*y)=a+4294967296^i*(x*aw Y (k+1)):=by
 have e:aw Y (k+1)=aw Y k+4294967296^k*Y k:=rfl;rw[e,hy,yX,yX,Nat.pow_add,Nat.add_assoc];congr 2
 rw[yY,Nat.mul_left_comm x]
theorem TN {i b:Nat} {X:Nat→Nat}:aw X i*b+4294967296^i*(X i*b)=aw X (i+1)*b:=by
 show _=(aw X i+4294967296^i*X i)*b;rw[Nat.add_mul,yY]
open Go.RowKit Go.Shelf
structure HeldB (W:World) where
 w:World
 h:Below W.heap.size W w
instance (W:World):Nonempty (HeldB W):=⟨⟨W,yB _ _⟩⟩
theorem HeldB.cell {W:World} {b o:Nat} {v:Value} (hc:W.cell? ⟨b,o,none⟩=some v) (x:HeldB W):x.w.cell? ⟨b,o,none⟩=some v :=
 (x.h.cell (p:=⟨b,o,none⟩) (World.block_lt_of_cell? _ _ hc)).trans hc
abbrev YL:=@HeldB.cell
theorem HeldB.call {W:World} {P:Program} {f:FuncId} {args:Array Value} {v:Value} (h:∀w',Below W.heap.size W w'→Calls P f args w' fun e fV=>e=.returned v∧Below w'.heap.size w' fV) (x:HeldB W) :
  Calls P f args x.w fun e fV=>e=.returned v∧∃y:HeldB W,fV=y.w :=
 (h x.w x.h).mono fun _ fV ⟨he,hb⟩=>⟨he,⟨fV,x.h.trans (hb.mono x.h.size)⟩,rfl⟩
theorem HeldB.callq {W:World} {P:Program} {f:FuncId} {args:Array Value} {v:Value} (h:∀w',Below W.heap.size W w'→Calls P f args w' fun e fV=>e=.returned v∧∃q,w'.drewN q=fV) (x:HeldB W) :
  Calls P f args x.w fun e fV=>e=.returned v∧∃y:HeldB W,fV=y.w :=
 (h x.w x.h).mono fun _ fV ⟨he,q,hq⟩=>⟨he,⟨fV,by rw[←hq];exact Zf x.h q⟩,rfl⟩
theorem bB {P:Program} {id:Nat} {Q:Exit→Act→World→Prop} {a:Act} {w:World} {l:List Oper} (hm:P.follows .mixedOrders=true) (hB:Region.lexB .any l.toArray=true)
  (h:wpQuiet P l.toArray (fun w'=>∃x:HeldB w,w'=x.w) (fun a'=>∀w',(∃x:HeldB w,w'=x.w)→Q .normal a' w') l a):(Code.region id l.toArray true).wp P Q a w :=
 wp_region_quiet (C:=fun w'=>∃x:HeldB w,w'=x.w) hm hB ⟨⟨w.drew,(yB _ _).drew⟩,rfl⟩ (by simpa using h)
section
variable {P:Program} {ops:Array Oper} {md:Region.Mode} {C:World→Prop}
def sI (P:Program) (md:Region.Mode) (ops:Array Oper) (C:World→Prop) (n:Nat) (L:Array Bool→Act→Prop):Nat→Array Bool→Act→Prop
 | 0,done,a=>L done a
 | f+1,done,a=>¬Region.ready md ops done=[]∧∀i∈Region.ready md ops done,i<n∧qOp P ops C i (sI P md ops C n L f (done.setIfInBounds i true)) a
theorem G9 {n g:Nat} {L:Array Bool→Act→Prop} {Q:Exit→Act→World→Prop} (hL:∀done a w,C w→L done a→wpAny P md ops Q g done a w) (f:Nat) :
  ∀(done:Array Bool) (a:Act) (w:World),C w→sI P md ops C n L f done a→wpAny P md ops Q (f+g) done a w:=by
 induction f with
 | zero=>intro done a w hw h;rw[yR];exact hL done a w hw h
 | succ f ih=>
  intro done a w hw h;rw[Nat.succ_add];exact⟨fun e=>absurd e h.1,fun i hi=>wpOp_of_qOp hw (fun a' w' Od h'=>ih _ a' w' Od h') (h.2 i hi).2⟩
theorem Kp {n i:Nat} {o:Oper} {v:Value} {L:Array Bool→Act→Prop} (ho:ops[i]?=some o) (Ag:i < n) (hn:n < ops.size) (k8:∀(j:Nat) (o:Oper) cs b,ops[j]?=some o→o.op ≠ .select cs b)
  (lT:Region.sinkB md ops n=true) (iO:Region.chainB md ops n=true) (hL:∀done a,L done a→∀j∈Region.ready md ops done,n≤j) (f:Nat) :
  ∀(done:Array Bool) (a:Act),HeadInv md ops n done→(∀j oj,ops[j]?=some oj→j≠i→done.getD j true=false→(∀e∈oj.after,Region.binds md e=true→e.on≠i)→o.apart ops oj=true) →
   i∈Region.ready md ops done→YieldsIn P ops C o v a→sI P md ops C n L f (done.setIfInBounds i true) (a.put o.dst v)→sI P md ops C n L (f+1) done a:=by
 induction f with
 | zero=>
  intro done a inv CH hr hy h;have Ys:=(mem_ready.1 hr).1;refine⟨(fun e=>by rw[e] at hr;cases hr),fun j hj=>?_⟩;have Y1:j<n:=Nat.lt_of_not_le fun ko=>tail_waits lT iO hn inv (n-i) i rfl Ag Ys j ko hj;refine⟨Y1,?_⟩;by_cases e:j=i
  ·rw[e];exact hy.qOp ho h
  have:=hL _ _ h j (ready_mono hj e);omega
 | succ f ih=>
  intro done a inv CH hr hy h;have Ys:=(mem_ready.1 hr).1;refine⟨(fun e=>by rw[e] at hr;cases hr),fun j hj=>?_⟩;have Y1:j<n:=Nat.lt_of_not_le fun ko=>tail_waits lT iO hn inv (n-i) i rfl Ag Ys j ko hj;refine⟨Y1,?_⟩;by_cases e:j=i
  ·rw[e];exact hy.qOp ho h
  have h1:=(h.2 j (ready_mono hj e)).2;obtain⟨hju,oj,hoj,fF⟩:=mem_ready.1 hj;have ky:∀x∈oj.after,Region.binds md x=true→x.on≠i:=fun x hx hb he=>by
   have h0:=fF x hx hb;rw[he,getD_both Ys] at h0;cases h0
  have h2:=qOp_put hoj (CH j oj hoj e hju ky) (fun cs b=>k8 i o cs b ho) (fun cs b=>k8 j oj cs b hoj) hy h1;refine qOp_mono (fun a' h3=>?_) h2;refine ih _ a' (inv.set hj Y1) (fun k ok hk Mj hku Pw=>?_) (ready_mono hr (Ne.symm e)) h3.1 ?_
  ·refine CH k ok hk Mj ?_ Pw;by_cases Hh:j=k
   ·rw[←Hh];exact hju
   rwa [getD_set_ne true Hh] at hku
  rw[Array.setIfInBounds_comm _ _ e];exact h3.2
theorem UA {n g:Nat} {K:Act→Prop} (hn:n<ops.size) (k8:Region.noSelect ops=true) (lT:Region.sinkB md ops n=true) (iO:Region.chainB md ops n=true) (l:List Oper) :
  ∀(k:Nat) (done:Array Bool) (a:Act),k+l.length=n→(∀j,j<l.length→l[j]?=ops[k+j]?)→HeadInv md ops n done→Region.lexHead md ops g l.length k done=true→wpQuiet P ops C K l a →
   sI P md ops C n (fun V8 a'=>Region.seqB md ops g n V8=true∧K a') l.length done a:=by
 induction l with
 | nil=>
  intro k done a hk _ _ hB h;obtain rfl:k=n:=by simpa using hk
  exact⟨by simpa[Region.lexHead] using hB,h⟩
 | cons o l ih=>
  intro k done a hk hl inv hB h;have ho:ops[k]?=some o:=by simpa using (hl 0 (by simp)).symm
  rw[List.length_cons] at hk hB;simp only[Region.lexHead,Bool.and_eq_true] at hB;obtain⟨⟨h1,h2⟩,h3⟩:=hB;have hr:k∈Region.ready md ops done:=by simpa using h1
  have hq:qOp P ops C k (wpQuiet P ops C K l) a:=by
   unfold qOp;rw[ho];exact h
  obtain⟨v,hy,hK⟩:=yieldsIn_of_qOp ho hq;have Pw:k<n:=by omega
  refine Kp ho Pw hn (Region.noSelect_spec k8) lT iO (fun _ _ hL=>seqB_ready hL.1) l.length done a inv (Region.free_spec ho h2) hr hy ?_;refine ih (k+1) _ _ (by omega) (fun j hj=>?_) (inv.set hr Pw) h3 hK
  have:=hl (j+1) (by rw[List.length_cons];omega);rw[List.getElem?_cons_succ] at this;rw[this,show k+(j+1)=k+1+j by omega]
theorem uU {id:Nat} {Q:Exit→Act→World→Prop} {a:Act} {w:World} {l:List Oper} (n:Nat) (hm:P.follows .mixedOrders=true) (hB:Region.lexTailB .any l.toArray n=true) (hC:C w.drew)
  (h:wpQuiet P l.toArray C (fun a'=>∀w',C w'→wpList P l.toArray Q (l.drop n) a' w') (l.take n) a):(Code.region id l.toArray true).wp P Q a w:=by
 simp only[Region.lexTailB,Bool.and_eq_true,decide_eq_true_eq] at hB;obtain⟨⟨⟨⟨k8,hn⟩,lT⟩,iO⟩,vq5⟩:=hB;have hnl:n<l.length:=by simpa using hn
 have FA:(l.take n).length=n:=by rw[YA];omega
 have hdl:(l.drop n).length=l.toArray.size-n:=by simp
 have vqW:HeadInv .any l.toArray n (Array.replicate l.toArray.size false):=by
  refine⟨by simp,fun j oj _ hj=>?_,fun t _ ht=>getD_in (by simpa using ht) (getD_replicate_false _ _)⟩;rw[getD_replicate_false] at hj;cases hj
 have H:=UA (md:=.any) (g:=l.toArray.size-n) hn k8 lT iO (l.take n) 0 _ a (by omega) (fun j hj=>by
  rw[FA] at hj;simp[hj]) vqW (by rw[FA];exact vq5) h
 refine wp_region_any hm ?_;have H2:=G9 (Q:=Q) (g:=l.toArray.size-n) (fun done a' w' Od hL=>by
  have h1:=wpAny_of_seq (md:=.any) (Q':=Q) (l.drop n) n done a' w' (fun j=>by simp[List.getElem?_drop]) (by rw[hdl];exact hL.1) (hL.2 w' Od);rwa [hdl] at h1) _ _ a _ hC H
 rw[FA,show n+(l.toArray.size-n)=l.toArray.size by omega] at H2;exact H2
theorem qg {id:Nat} {Q:Exit→Act→World→Prop} {a:Act} {w:World} {l:List Oper} (n:Nat) (hm:P.follows .mixedOrders=true) (hB:Region.lexTailB .any l.toArray n=true)
  (h:wpQuiet P l.toArray (fun w'=>∃x:HeldB w,w'=x.w) (fun a'=>∀w',(∃x:HeldB w,w'=x.w)→wpList P l.toArray Q (l.drop n) a' w') (l.take n) a):(Code.region id l.toArray true).wp P Q a w :=
 uU (C:=fun w'=>∃x:HeldB w,w'=x.w) n hm hB ⟨⟨w.drew,(yB _ _).drew⟩,rfl⟩ h
end
theorem OwnW.other {w:World} {g n:Nat} {L:List Nat} (h:OwnW w g n L) (b i:Nat) (v:Value) (hb:b≠g):OwnW (w.setCell ⟨b,i,none⟩ v) g n L:=by
 have kB:w.grownBy (w.setCell ⟨b,i,none⟩ v) (some b):=⟨rfl,rfl,rfl,by simp[World.setCell],fun k _ hk=>Below.heap_setCell w _ _ k (fun e=>hk (by rw[e]))⟩;exact World.ownsRow.kept h kB (by simp[Value.ownBlock];omega)
structure TmSt (w wr:World) (g n:Nat) (n1 n2:Bool) (sx sy:Value) (O:List Nat):Prop where
 own:OwnW wr g n O
 ok:Wok O
 bel:Below w.heap.size w wr
 gw:w.heap.size+3≤g
 d1:Blk wr w.heap.size 152 #[.bool n1,sx]
 d2:Blk wr (w.heap.size+1) 152 #[.bool n2,sy]
 d3:Blk wr (w.heap.size+1+1) 152 #[.bool false,.slice none 0 0]
theorem TmSt.set {w wr:World} {g n:Nat} {n1 n2:Bool} {sx sy:Value} {O:List Nat} (h:TmSt w wr g n n1 n2 sx sy O) (i x:Nat) (hx:x<4294967296):TmSt w (wr.setCell ⟨g,i,none⟩ (.int .u32 (x:Nat))) g n n1 n2 sx sy (O.set i x):=by
 have hg:=h.gw;have kB:wr.grownBy (wr.setCell ⟨g,i,none⟩ (.int .u32 (x:Nat))) (some g):=⟨rfl,rfl,rfl,by simp[World.setCell],fun k _ hk=>Below.heap_setCell wr _ _ k (fun e=>hk (by rw[e]))⟩;exact⟨h.own.set_ i x,h.ok.set i hx,h.bel.setCell (p:=⟨g,i,none⟩) (by show w.heap.size≤g;omega) _,hg,h.d1.kept kB (by simp;omega),h.d2.kept kB (by simp;omega),h.d3.kept kB (by simp;omega)⟩
theorem li (v u:Value) (x y:Int) (K:Nat) (w:World) (hv:NumAt w v x) (hu:NumAt w u y) (hK:K≤400000) (hx:x.natAbs<4294967296^K) (hy:y.natAbs<4294967296^K) :
    Calls Tryz.prog 157 #[v,u] w (MakesN (x*y) w):=by
  obtain⟨n1,s1,m1,rfl,⟨⟨A,c,X,rfl,hl,P4,UN,rfl⟩,-⟩,vqY⟩:=hv;obtain⟨n2,s2,m2,rfl,⟨⟨A',c',Y,rfl,hm,hYo,hYt,rfl⟩,-⟩,vqX⟩:=hu;have hX6:X.length ≤ 400000 := yH (jV UN (by
   have:x.natAbs=wv X := by rw[vqY]; cases n1 <;> simp
   rwa [this] at hx)) hK
  have hY6:Y.length ≤ 400000 := yH (jV hYt (by
   have:y.natAbs=wv Y := by rw[vqX]; cases n2 <;> simp
   rwa [this] at hy)) hK
  have HZ:Y0 (x*y=if (n1 != n2)=true then -((wv X*wv Y:Nat):Int) else ((wv X*wv Y:Nat):Int)):=by
    unfold Y0;rw[vqY,vqX,Int.natCast_mul];cases n1 <;> cases n2 <;> simp[Int.mul_neg,Int.neg_mul]
  obtain⟨_,_,e,fU,cM,aj⟩:=hl.open_;injection e with e1 _ e2;subst e1 e2;obtain⟨_,_,e,pR,nH,oI⟩:=hm.open_;injection e with e1 _ e2;subst e1 e2;unfold maxLen at cM nH;have HX:=zh aj;have HY:=zh oI;have Hv:=zh P4;have HYo:=zh hYo;obtain⟨i0,jB,hH,jb,km⟩:=info_parts o9;have aZ:i0.bytes*(X.length+Y.length)≤281474976710656:=by rw[km]; omega
  clear aj oI hl hm P4 UN hYo hYt hx hy hK vqY vqX;have B1:Y0 (Blk (((w.alloc (.cells #[.bool n1,.slice A X.length c] 152)).alloc (.cells #[.bool n2,.slice A' Y.length c'] 152)).alloc (.cells #[.bool false,.slice none 0 0] 152)) w.heap.size 152 #[.bool n1,.slice A X.length c]):=((Blk.new w 152 #[.bool n1,.slice A X.length c]).alloc _).alloc _;have B2:Y0 (Blk (((w.alloc (.cells #[.bool n1,.slice A X.length c] 152)).alloc (.cells #[.bool n2,.slice A' Y.length c'] 152)).alloc (.cells #[.bool false,.slice none 0 0] 152)) (w.heap.size+1) 152 #[.bool n2,.slice A' Y.length c']):=by
    have:=(Blk.new (w.alloc (.cells #[.bool n1,.slice A X.length c] 152)) 152 #[.bool n2,.slice A' Y.length c']).alloc (.cells #[.bool false,.slice none 0 0] 152);unfold Y0;simpa using this
  have B3:Y0 (Blk (((w.alloc (.cells #[.bool n1,.slice A X.length c] 152)).alloc (.cells #[.bool n2,.slice A' Y.length c'] 152)).alloc (.cells #[.bool false,.slice none 0 0] 152)) (w.heap.size+1+1) 152 #[.bool false,.slice none 0 0]):=by
    have:=Blk.new ((w.alloc (.cells #[.bool n1,.slice A X.length c] 152)).alloc (.cells #[.bool n2,.slice A' Y.length c'] 152)) 152 #[.bool false,.slice none 0 0];unfold Y0;simpa using this
  have bp:Y0 (Below w.heap.size w (((w.alloc (.cells #[.bool n1,.slice A X.length c] 152)).alloc (.cells #[.bool n2,.slice A' Y.length c'] 152)).alloc (.cells #[.bool false,.slice none 0 0] 152))):=(((yB _ _).alloc (yA _) _).alloc (by simp) _).alloc (by simp; omega) _;go_enter Tryz.func157,Tryz.ntmps157;go_wp2_with (
    at_make
    refine wpList_make_full _ rfl _ _ 150 rfl _ 205 i0 (.int .u32 0) 1 Tryz.underlying150 jB hH jb .i64 .i64 _ _ (X.length+Y.length) rfl rfl rfl rfl aZ (by unfold maxLen; omega) (Nat.le_refl _) ?_;intro w4 bC bz;have D1:=zh (B1.o.kept bz (by simp));have D2:=zh (B2.o.kept bz (by simp));have D3:=zh (B3.o.kept bz (by simp));have fI:=zh (bp.o.grown bz bp.o.size (fun k hk=>by cases hk));have gL:=D1.o.cell 0
    have jD:=D1.o.cell 1;have iZ:=D2.o.cell 0;have iz:=D2.o.cell 1;simp only[aG,aH,aD] at gL jD iZ iz)
  rw[o7] at bC;simp only[World.size_alloc] at bC;have KV:Y0 (TmSt w w4 (w.heap.size+1+1+1) (X.length+Y.length) n1 n2 (.slice A X.length c) (.slice A' Y.length c') (List.replicate (X.length+Y.length) 0)):=⟨bC,Wok.zeros _,fI.o,by omega,D1.o,D2.o,D3.o⟩;obtain⟨g,hg⟩:=zo (w.heap.size+1+1+1);rw[hg] at KV;simp only[hg];have vn:Y0 (aw (aQ (List.replicate (X.length+Y.length) 0)) (X.length+Y.length)=aw (aQ X) 0*wv Y):=by
    unfold Y0;rw[wk];show 0=0*wv Y;rw[Nat.zero_mul]
  have PK:Y0 (∀j,0+Y.length≤j→aQ (List.replicate (X.length+Y.length) 0) j=0):=fun j _=>sW _ j;clear bC bz jB hH jb aZ hg D1 D2 D3 fI B1 B2 B3 bp gL jD iZ iz;go_loopw [22] (fun ix wr=>∃(i:Nat) (O:List Nat),i≤X.length∧ix=.int .i64 i∧Y0 (TmSt w wr g (X.length+Y.length) n1 n2 (.slice A X.length c) (.slice A' Y.length c') O)∧Y0 (aw (aQ O) (X.length+Y.length)=aw (aQ X) i*wv Y)∧Y0 (∀j,i+Y.length≤j→aQ O j=0)) (fun ix _=>X.length-(intOf ix).toNat)
  case atStart=>exact⟨0,_,yI _,rfl,KV,vn,PK⟩
  clear KV vn PK;obtain⟨i,O,hi,rfl,HT,HS,HN⟩:=hrel;have j0:(0:Int)≤(i:Int):=yE _;have iZ:=HT.o.d2.cell 0;have iz:=HT.o.d2.cell 1;simp only[aG,aH,aD] at iZ iz;by_cases hix:i<X.length
  · have j1:(i:Int)<(X.length:Int):=by omega
    obtain⟨b1,o1,rfl,ak,Oc⟩:=HX.o i hix;have hx:=Oc i hix;unfold pU at hx;have x0:X[i]<4294967296:=Hv.o _ (yV hix);have hx:=(HT.o.bel.cell (p:=⟨b1,o1+i,none⟩) ak).trans hx;have BP:Y0 (aQ X i=X[i]):=cu hix;clear Oc;generalize X[i]=x at*;have x1:(x:Int)<4294967296:=by omega
    have x2:(0:Int)≤(x:Int):=yE _;have zv:Y0 (aw (aQ O) (X.length+Y.length)+4294967296^(i+0)*0=aw (aQ X) i*wv Y+4294967296^i*(x*aw (aQ Y) 0)):=by
      unfold Y0;rw[HS.o,Nat.mul_zero];show _=_+4294967296^i*(x*0);rw[Nat.mul_zero,Nat.mul_zero]
    go_wp2_with fail;go_loopw [8,30] (fun cx kx wr=>∃(k cy:Nat) (O:List Nat),k≤Y.length∧kx=.int .i64 k∧cx=.int .u64 (cy:Nat)∧cy<4294967296∧Y0 (TmSt w wr g (X.length+Y.length) n1 n2 (.slice (some ⟨b1,o1,none⟩) X.length c) (.slice A' Y.length c') O)∧Y0 (aw (aQ O) (X.length+Y.length)+4294967296^(i+k)*cy=aw (aQ X) i*wv Y+4294967296^i*(x*aw (aQ Y) k))∧Y0 (∀j,i+Y.length≤j→aQ O j=0)) (fun _ kx _=>Y.length-(intOf kx).toNat)
    case atStart=>exact⟨0,0,O,yI _,rfl,rfl,by decide,HT,zv,HN⟩
    clear HT HS zv HN iZ iz;obtain⟨k,cy,O,hk,rfl,rfl,Pz,HT,HS,HN⟩:=hrel;have k0:(0:Int)≤(k:Int):=yE _;have c2:(0:Int)≤(cy:Int):=yE _;have c3:(cy:Int)<4294967296:=by omega
    have iZ:=HT.o.d2.cell 0;have iz:=HT.o.d2.cell 1;simp only[aG,aH,aD] at iZ iz;by_cases ay:k<Y.length
    · have k1:(k:Int)<(Y.length:Int):=by omega
      obtain⟨b2,o2,rfl,aU,hyc⟩:=HY.o k ay;have hy:=hyc k ay;unfold pU at hy;have y0:Y[k]<4294967296:=HYo.o _ (yV ay);have hy:=(HT.o.bel.cell (p:=⟨b2,o2+k,none⟩) aU).trans hy;have mz:Y0 (aQ Y k=Y[k]):=cu ay;clear hyc;generalize Y[k]=y at*;have y1:(y:Int)<4294967296:=by omega
      have y2:(0:Int)≤(y:Int):=yE _;have z1:=HT.o.own.cell (show i+k<X.length+Y.length by omega);have z2:=HT.o.own.frozen (i+k);have o0:aQ O (i+k)<4294967296:=gQ HT.o.ok _;have HMc:=zh (NI x0 y0 o0 Pz);have nt:Y0 (aw (aQ (O.set (i+k) ((x*y+aQ O (i+k)+cy)%4294967296))) (X.length+Y.length)+4294967296^(i+k+1)*((x*y+aQ O (i+k)+cy)/4294967296)=aw (aQ X) i*wv Y+4294967296^i*(x*aw (aQ Y) (k+1))):=by
        have h:=Yf (x:=x) (y:=y) (show i+k<O.length by rw[HT.o.own.len]; omega) HT.o.own.len HS.o;exact h.trans (Yh mz.o.symm)
      have aS:=zh (HT.o.set (i+k) ((x*y+aQ O (i+k)+cy)%4294967296) (YJ _ (by decide)));have HNt:Y0 (∀j,i+Y.length≤j→aQ (O.set (i+k) ((x*y+aQ O (i+k)+cy)%4294967296)) j=0):=fun j hj=>by
        rw[iU (by rw[HT.o.own.len]; omega),if_neg (by omega)];exact HN.o j hj
      generalize aQ O (i+k)=o at*;have o1':(o:Int)<4294967296:=by omega
      have o2':(0:Int)≤(o:Int):=yE _;have xy0:(0:Int)≤(x:Int)*(y:Int):=Int.mul_nonneg x2 y2;have xy1:(x:Int)*(y:Int)≤18446744065119617025:=by
        have:(x:Int)*(y:Int)≤4294967295*4294967295:=Int.mul_le_mul (by omega) (by omega) y2 (by decide);omega
      have ik0:(0:Int)≤(i:Int)+(k:Int):=by omega
      have ik1:(i:Int)+(k:Int)<(X.length:Int)+(Y.length:Int):=by omega
      have ik2:((i:Int)+(k:Int)).toNat=i+k:=by omega
      have eN:x*y+o+cy=cy+(x*y+o):=Nat.add_comm _ _;rw[eN] at nt aS HNt HMc;clear eN;go_wp2_with fail;clear HT HS HN z1 z2;go_roundw
      case rel=>exact⟨k+1,(cy+(x*y+o))/4294967296,_,by omega,by go_num,by go_num,HMc.o.2,aS,nt,HNt⟩
      simp[intOf]; omega
    obtain rfl:k=Y.length:=by omega
    have z1:=HT.o.own.cell (show i+Y.length<X.length+Y.length by omega);have z2:=HT.o.own.frozen (i+Y.length);have aS:=zh (HT.o.set (i+Y.length) cy Pz);have nt:Y0 (aw (aQ (O.set (i+Y.length) cy)) (X.length+Y.length)=aw (aQ X) (i+1)*wv Y):=by
      have h:=TP (show i+Y.length<O.length by rw[HT.o.own.len]; omega) HT.o.own.len (HN.o _ (yA _)) HS.o;rw[←BP.o] at h;exact h.trans TN
    have HNt:Y0 (∀j,i+1+Y.length≤j→aQ (O.set (i+Y.length) cy) j=0):=fun j hj=>by
      rw[iU (by rw[HT.o.own.len]; omega),if_neg (by omega)];exact HN.o j (by omega)
    have ik0:(0:Int)≤(i:Int)+(Y.length:Int):=by omega
    have ik1:(i:Int)+(Y.length:Int)<(X.length:Int)+(Y.length:Int):=by omega
    have ik2:((i:Int)+(Y.length:Int)).toNat=i+Y.length:=by omega
    go_wp2_with fail;clear HT HS HN z1 z2;go_roundw
    case rel=>exact⟨i+1,_,by omega,by go_num,aS,nt,HNt⟩
    simp[intOf]; omega
  obtain rfl:i=X.length:=by omega
  have hTr:∀t:HeldB wr,Calls Tryz.prog 188 #[.slice (some ⟨g,0,none⟩) (X.length+Y.length) (X.length+Y.length)] t.w fun e w'=>e=.returned (.slice (some ⟨g,0,none⟩) (gi O) (X.length+Y.length))∧∃t':HeldB wr,w'=t'.w:=fun t=>by
    have h:=tM (some ⟨g,0,none⟩) (X.length+Y.length) t.w.heap.size O t.w (HT.o.own.below t.h).at_;rw[HT.o.own.len] at h;exact h.mono fun e w' ⟨h1,h2⟩=>⟨h1,t,h2.symm⟩
  have gL:=HT.o.d1.cell 0;have iZ:=HT.o.d2.cell 0;simp only[aG,aD] at gL iZ;have tW:=YL gL;have zM:=YL iZ;clear gL iZ iz;go_wp2_with fail;refine qg 8 (by kernel_rfl) (by kernel_rfl) ?_;simp only[aM,aP,aN,aO]
  repeat (go_big_quiet_step ((go_at_call 188; exact hTr _)))
  refine YE ?_;rintro w5 ⟨⟨w6,aR⟩,rfl⟩;have d9:=zh (HT.o.d3.below aR HT.o.d3.lt);have PG:=zh (HT.o.own.below aR);have HOk:=zh HT.o.ok;have k7:=zh (HT.o.bel.trans (aR.mono HT.o.bel.size));have CF:=HT.o.gw;have Tw:=d9.o.cell 0;have Tv:=d9.o.cell 1;have f30:=d9.o.frozen 0;have f31:=d9.o.frozen 1;simp only[aG,aH,aD] at Tw Tv;clear tW zM hTr HT;go_wp2_with fail;refine YF (v:=.agg #[.bool (!(n1==n2)),.slice (some ⟨g,0,none⟩) (gi O) (X.length+Y.length)]) (by simp[results,Tryz.results157,go_sem,Tw,Tv]) rfl ?_
  have lF:=(k7.o.setCell (p:=⟨w.heap.size+1+1,0,none⟩) (show w.heap.size≤w.heap.size+1+1 by omega) (.bool !n1==n2)).setCell (p:=⟨w.heap.size+1+1,1,none⟩) (show w.heap.size≤w.heap.size+1+1 by omega) (.slice (some ⟨g,0,none⟩) (gi O) (X.length+Y.length));have hO7:=(PG.o.other (w.heap.size+1+1) 0 (.bool !n1==n2) (by omega)).other (w.heap.size+1+1) 1 (.slice (some ⟨g,0,none⟩) (gi O) (X.length+Y.length)) (by omega)
  obtain⟨t1,t2,t3⟩:=iH O;have hO:wv O=wv X*wv Y:=by
    have h:=HS.o;rw[←PG.o.len] at h;exact h
  exact⟨lF,_,rfl,!(n1==n2),_,wv X*wv Y,rfl,WAt.of_trim hO7 HOk.o t1 t2 (t3.trans hO),HZ.o⟩
