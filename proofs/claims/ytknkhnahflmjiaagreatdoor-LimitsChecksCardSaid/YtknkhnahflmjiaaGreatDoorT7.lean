/- Lemmas. -/
import Derived.Test.YtknkhnahflmjiaaGreatDoorT6
namespace Go.Proofs.YtknkhnahflmjiaaGreatDoor
set_option maxRecDepth 100000
set_option maxHeartbeats 40000000
open Go.RowKit Go.Shelf
abbrev LoadT.val (x:LoadT):Value:=.agg #[.int .i64 x.pos,.int .i64 x.wt]
theorem xf (v:Value) (l:List LoadT) (K:Nat) (C:Array Value) (p:LoadT→Bool) (eg:∀args w,(callFunc K args).run Tryz.prog w=.ok (.enter K args) w) (w:World) (hl:LoadsAt w w.heap.size v l)
  (hf:∀t∈l,∀w',Below w.heap.size w w'→Calls Tryz.prog K (#[t.val]++C) w' fun e kS=>e=.returned (.bool (p t))∧Below w'.heap.size w' kS) :
  Calls Tryz.prog 216 #[v,.func (.func K) #[] C] w fun e w'=>e=.returned (.int .i64 (oZ (l.findIdx? p)))∧Below w.heap.size w w':=by
 obtain⟨A,c,rfl,kG,eH,aL⟩:=hl.open_;unfold maxLen at eH;have HF:=zh hf;clear hf;go_enter Tryz.func216,Tryz.ntmps216;go_wp2;go_loopw [8] (fun x wr=>∃j:Nat,j≤l.length∧x=.int .i64 j∧(l.take j).findIdx? p=none∧Below w.heap.size w wr) (fun x _=>l.length-(intOf x).toNat)
 case atStart=>exact⟨0,yI _,rfl,by simp,yB _ _⟩
 obtain⟨j,hj,rfl,lR,aG⟩:=hrel;have LR:=zh lR;clear lR;by_cases aI:j<l.length
 ·obtain⟨b,off,rfl,hb,aL⟩:=aL j aI;have h0:=(aG.cell (p:=⟨b,off+j*2,none⟩) hb).trans (aL j aI).1;have h1:=(aG.cell (p:=⟨b,off+j*2+1,none⟩) hb).trans (aL j aI).2;clear aL;have qU:=HF.o l[j] (yV aI);cases hq:p l[j]
  case true=>
   rw[hq] at qU;go_wp2_with (go_at_fn K;refine (qU _ aG).mono ?_;rintro e w' ⟨rfl,pd⟩);go_ret;exact⟨by rw[Dr LR.o aI hq];rfl,aG.trans (pd.mono aG.size)⟩
  rw[hq] at qU;go_wp2_with (go_at_fn K;refine (qU _ aG).mono ?_;rintro e w' ⟨rfl,pd⟩);go_roundw
  case rel=>exact⟨j+1,by omega,by go_num,yk LR.o aI hq,aG.trans (pd.mono aG.size)⟩
  simp[intOf];omega
 have GU:j=l.length:=by omega
 subst GU;go_wp2;go_ret;exact⟨by rw[←yT (l:=l),LR.o];rfl,aG⟩
theorem sH (v:Value) (l:List LoadT) (K:Nat) (C:Array Value) (p:LoadT→Bool) (eg:∀args w,(callFunc K args).run Tryz.prog w=.ok (.enter K args) w) (w:World) (hl:LoadsAt w w.heap.size v l)
  (hf:∀t∈l,∀w',Below w.heap.size w w'→Calls Tryz.prog K (#[t.val]++C) w' fun e kS=>e=.returned (.bool (p t))∧Below w'.heap.size w' kS) :
  Calls Tryz.prog 157 #[v,.func (.func K) #[] C] w fun e w'=>e=.returned (.bool (l.any p))∧Below w.heap.size w w':=by
 have hc:=xf v l K C p eg w hl hf;have jL:=QO p l;have HA:=zh (Jr p l);generalize oZ (l.findIdx? p)=x at*;clear hf hl;go_enter Tryz.func157,Tryz.ntmps157;go_wp2_with (go_at_call 216;refine hc.mono ?_;rintro e w' ⟨rfl,pd⟩);go_ret;exact⟨Ze HA.o,pd⟩
theorem BR (a b:Nat) (w:World) (_ha:a<18446744073709551616) (hb:b<18446744073709551616) :
  Calls Tryz.prog 54 #[.int .u64 a,.int .u64 b] w fun e w'=>e=.returned (.int .u64 (Nat.gcd a b:Nat))∧∃n,w.drewN n=w':=by
 go_enter Tryz.func54,Tryz.ntmps54;go_wp2;go_loopw [0,1] (fun x y wr=>∃i j n:Nat,x=.int .u64 i∧y=.int .u64 j∧j<18446744073709551616∧Y0 (Nat.gcd i j=Nat.gcd a b)∧wr=w.drewN n) (fun _ y _=>(intOf y).toNat)
 case atStart=>exact⟨a,b,0,rfl,rfl,hb,rfl,rfl⟩
 obtain⟨i,j,n,rfl,rfl,hj,HG,rfl⟩:=hrel;by_cases h0:j=0
 ·subst h0;go_wp2;go_ret;refine⟨?_,n,rfl⟩;rw[←HG.o,Nat.gcd_zero_right];rfl
 have e0:((j:Int) != 0)=true:=bne_iff_ne.2 (by omega);have e1:((j:Int)==0)=false:=zb (by omega);have e2:(i:Int).tmod (j:Int)=((i%j:Nat):Int):=(Int.ofNat_tmod i j).symm;have e3:IntKind.u64.wrap ((i%j:Nat):Int)=((i%j:Nat):Int):=by
  have:=YJ i (Nat.pos_of_ne_zero h0);show ((i%j:Nat):Int)%18446744073709551616=_;omega
 have e4:¬(j:Int)=0:=by omega
 have aI:i%j<j:=YJ i (Nat.pos_of_ne_zero h0);have HG':Y0 (Nat.gcd j (i%j)=Nat.gcd a b):=by
  unfold Y0;rw[←HG.o,Nat.gcd_comm i j,Nat.gcd_rec j i,Nat.gcd_comm]
 have HL:=zh aI;generalize i%j=m at*;clear aI h0;go_wp2;go_quiet (fail);go_wp2;go_roundw
 case rel=>exact⟨j,m,_,rfl,rfl,by have:=HL.o;omega,HG',World.drewN_drewN ..⟩
 have:=HL.o;simp[intOf];omega
theorem Fh (n:Int) (w:World) (h1 : -1152921504606846976≤n) (h2:n≤1152921504606846976) :
  Calls Tryz.prog 55 #[.int .i64 n] w fun e w'=>e=.returned (.int .u64 (n.natAbs:Nat))∧w=w':=by
 by_cases h0:n<0
 ·have e1:IntKind.u64.wrap n=n+18446744073709551616:=by
   show n%18446744073709551616=_;omega
  have e2:Y0 (IntKind.u64.wrap (-(n+18446744073709551616))=((n.natAbs:Nat):Int)):=by
   show (-(n+18446744073709551616))%18446744073709551616=_;omega
  clear h1 h2;go_enter Tryz.func55,Tryz.ntmps55;go_wp2;go_ret;refine⟨?_,rfl⟩;rw[←e2.o];rfl
 have e1:Y0 (IntKind.u64.wrap n=((n.natAbs:Nat):Int)):=by
  show n%18446744073709551616=_;omega
 clear h1 h2;go_enter Tryz.func55,Tryz.ntmps55;go_wp2;go_ret;refine⟨?_,rfl⟩;rw[←e1.o];rfl
def aj (x:FrT):Bool:=decide (1≤x.den)&&decide (x.den≤1152921504606846976)&&decide (-1152921504606846976≤x.num)&&decide (x.num≤1152921504606846976)&&(((Nat.gcd x.num.natAbs x.den.natAbs:Nat):Int)==1)
theorem gi (x:FrT) (w:World):Calls Tryz.prog 49 #[x.val] w fun e w'=>e=.returned (.bool (aj x))∧Below w.heap.size w w':=by
 have HD:=zh (Blk.new w 23 #[.int .i64 x.num,.int .i64 x.den]);have HB:=zh ((yB _ w).alloc (yA _) (.cells #[.int .i64 x.num,.int .i64 x.den] 23));obtain⟨num,den⟩:=x;simp only at*;obtain⟨z0,z1⟩:=HD.o.c2;clear HD;go_enter Tryz.func49,Tryz.ntmps49;go_wp2;generalize w.alloc (.cells #[.int .i64 num,.int .i64 den] 23)=W1 at*;by_cases c1:1≤den;rotate_left
 ·have d1:decide (1≤den)=false:=yC c1;have HV:Y0 (aj ⟨num,den⟩=false):=by unfold Y0 aj;simp only[d1];rfl
  clear c1;go_quiet (fail);go_wp2;go_ret;exact⟨Ze HV.o.symm,Zf HB.o _⟩
 have d1:decide (1≤den)=true:=yD c1;by_cases c2:den≤1152921504606846976;rotate_left
 ·have d2:decide (den≤1152921504606846976)=false:=yC c2;have HV:Y0 (aj ⟨num,den⟩=false):=by unfold Y0 aj;simp only[d1,d2];rfl
  clear c1 c2;go_quiet (fail);go_wp2;go_ret;exact⟨Ze HV.o.symm,Zf HB.o _⟩
 have d2:decide (den≤1152921504606846976)=true:=yD c2;by_cases c3 : -1152921504606846976≤num;rotate_left
 ·have d3:decide (-1152921504606846976≤num)=false:=yC c3;have HV:Y0 (aj ⟨num,den⟩=false):=by unfold Y0 aj;simp only[d1,d2,d3];rfl
  clear c1 c2 c3;go_quiet (fail);go_wp2;go_ret;exact⟨Ze HV.o.symm,Zf HB.o _⟩
 have d3:decide (-1152921504606846976≤num)=true:=yD c3;by_cases c4:num≤1152921504606846976;rotate_left
 ·have d4:decide (num≤1152921504606846976)=false:=yC c4;have HV:Y0 (aj ⟨num,den⟩=false):=by unfold Y0 aj;simp only[d1,d2,d3,d4];rfl
  clear c1 c2 c3 c4;go_quiet (fail);go_wp2;go_ret;exact⟨Ze HV.o.symm,Zf HB.o _⟩
 have d4:decide (num≤1152921504606846976)=true:=yD c4;have HV:Y0 (aj ⟨num,den⟩=(((Nat.gcd num.natAbs den.natAbs:Nat):Int)==1)):=by unfold Y0 aj;simp only[d1,d2,d3,d4];rfl
 have hS:=fun n=>pH (Fh num (W1.drewN n) c3 c4);have hw:IntKind.u64.wrap den=((den.natAbs:Nat):Int):=by
  show den%18446744073709551616=_;omega
 have hG:=fun n=>C1 (BR num.natAbs den.natAbs (W1.drewN n) (by omega) (by omega));clear c1 c2 c3 c4;generalize Nat.gcd num.natAbs den.natAbs=g at*;go_quiet (first|(go_at_call 55;exact hS _)|(go_at_call 54;exact hG _));go_wp2;go_ret;exact⟨Ze HV.o.symm,Zf HB.o _⟩
def cL (bl:Int) (x:LoadT):Bool:=!decide (x.pos<0) && !decide (bl<x.pos) && !decide (x.wt<0) && !decide (67108864<x.wt)
def eQ (b:BeamT) (i:Nat):Bool:=!decide (ai b i<0) && !decide (b.len<ai b i)&&(decide (i=0) || !decide (ai b i≤ai b (i-1)))
def cU (b:BeamT) (k:Nat):Bool:=decide (∀i,i<k→eQ b i=true)
def de (b:BeamT):Bool:=dW b.name && !decide (b.len<1) && !decide (1048576<b.len) && !decide (b.even<0) && !decide (1048576<b.even) && !decide ((b.sup.length:Int)<1) && !decide (10<(b.sup.length:Int)) && !decide (40<(b.loads.length:Int))
def dq (b:BeamT):Bool:=de b&&cU b b.sup.length&&b.loads.all (cL b.len)
theorem CB {α:Type} (l:List α) (p:α→Bool):(!l.any fun x=>!p x)=l.all p:=by
 induction l with
 | nil=>rfl
 | cons x l ih=>rw[List.any_cons,List.all_cons,Bool.not_or,Bool.not_not,ih]
theorem cN {b:BeamT} (h:de b=false):dq b=false:=by unfold dq;rw[h];rfl
theorem ly {b:BeamT} {k:Nat} (hk:k<b.sup.length) (h:eQ b k=false):dq b=false:=by
 have:cU b b.sup.length=false:=by
  unfold cU;rw[YD];intro hh;rw[hh k hk] at h;cases h
 unfold dq;rw[this,Bool.and_false,Bool.false_and]
theorem oY (b:BeamT):cU b 0=true:=by unfold cU;simp
theorem iY {b:BeamT} {k:Nat} (h:cU b k=true) (h1:eQ b k=true):cU b (k+1)=true:=by
 unfold cU at*;rw[yP] at*;intro i hi;rcases Nat.lt_succ_iff_lt_or_eq.1 hi with h2|rfl
 ·exact h i h2
 exact h1
theorem Qu {b:BeamT} (h:de b=true) (h1:cU b b.sup.length=true):dq b=b.loads.all (cL b.len):=by unfold dq;rw[h,h1];rfl
theorem j9 {b:BeamT} (h:dq b=true):BeamOk b:=by
 unfold dq de cU at h;simp only[Bool.and_eq_true,Bool.not_eq_true',decide_eq_false_iff_not,decide_eq_true_eq,List.all_eq_true] at h;obtain⟨⟨⟨⟨⟨⟨⟨⟨⟨h0,h1⟩,h2⟩,h3⟩,h4⟩,h5⟩,h6⟩,h7⟩,h8⟩,h9⟩:=h;have h8':∀i,i<b.sup.length→¬ai b i<0∧¬b.len<ai b i∧(i=0∨¬ai b i≤ai b (i-1)):=fun i hi=>by
  have:=h8 i hi;unfold eQ at this;simpa[and_assoc] using this
 refine⟨by omega,by omega,by omega,fun i hi=>?_,fun i hi=>?_,by omega,fun x hx=>?_⟩
 ·have:=h8' i hi;omega
 ·have:=(h8' (i+1) hi).2.2;simp at this;omega
 have:=h9 x hx;unfold cL at this;simp only[Bool.and_eq_true,Bool.not_eq_true',decide_eq_false_iff_not] at this;omega
theorem RZ:∀args w,(callFunc 164 args).run Tryz.prog w=.ok (.enter 164 args) w:=enters_of Tryz.func164 (by kernel_rfl) rfl
theorem Sv (D:Nat) (x:LoadT) (bl:Int) (w:World) (n:ByteArray) (u2 u3 u4:Value) (h1:Blk w D 117 #[.string n,.int .i64 bl,u2,u3,u4]) :
  Calls Tryz.prog 164 #[x.val,.pointer (some ⟨D,0,none⟩)] w fun e w'=>e=.returned (.bool (!cL bl x))∧Below w.heap.size w w':=by
 have HB:=zh ((yB _ w).alloc (yA _) (.cells #[.int .i64 x.pos,.int .i64 x.wt] 115));have HD:=zh (Blk.new w 115 #[.int .i64 x.pos,.int .i64 x.wt]);have y:=(h1.below HB.o h1.lt).cell 1;have y0:=HD.o.cell 0;have y1:=HD.o.cell 1;simp only[aB,aD,aA] at y y0 y1;obtain⟨pos,wt⟩:=x;simp only at*;by_cases c0:pos<0
 ·have d0:decide (pos<0)=true:=yD c0;have HV:Y0 ((!cL bl ⟨pos,wt⟩)=true):=by unfold Y0 cL;simp only[d0];rfl
  clear h1;go_enter Tryz.func164,Tryz.ntmps164;go_wp2_with fail;go_ret;exact⟨Ze HV.o.symm,HB.o⟩
 have d0:decide (pos<0)=false:=yC c0;by_cases c1:bl<pos
 ·have d1:decide (bl<pos)=true:=yD c1;have HV:Y0 ((!cL bl ⟨pos,wt⟩)=true):=by unfold Y0 cL;simp only[d0,d1];rfl
  clear h1;go_enter Tryz.func164,Tryz.ntmps164;go_wp2_with fail;go_ret;exact⟨Ze HV.o.symm,HB.o⟩
 have d1:decide (bl<pos)=false:=yC c1;by_cases c2:wt<0
 ·have d2:decide (wt<0)=true:=yD c2;have HV:Y0 ((!cL bl ⟨pos,wt⟩)=true):=by unfold Y0 cL;simp only[d0,d1,d2];rfl
  clear h1;go_enter Tryz.func164,Tryz.ntmps164;go_wp2_with fail;go_ret;exact⟨Ze HV.o.symm,HB.o⟩
 have d2:decide (wt<0)=false:=yC c2;by_cases c3:67108864<wt
 ·have d3:decide (67108864<wt)=true:=yD c3;have HV:Y0 ((!cL bl ⟨pos,wt⟩)=true):=by unfold Y0 cL;simp only[d0,d1,d2,d3];rfl
  clear h1;go_enter Tryz.func164,Tryz.ntmps164;go_wp2_with fail;go_ret;exact⟨Ze HV.o.symm,HB.o⟩
 have d3:decide (67108864<wt)=false:=yC c3;have HV:Y0 ((!cL bl ⟨pos,wt⟩)=false):=by unfold Y0 cL;simp only[d0,d1,d2,d3];rfl
 clear h1;go_enter Tryz.func164,Tryz.ntmps164;go_wp2_with fail;go_ret;exact⟨Ze HV.o.symm,HB.o⟩
theorem Vz (v:Value) (b:BeamT) (w:World) (hv:BeamAt w w.heap.size v b) (hn:b.name.size≤maxLen):Calls Tryz.prog 121 #[v] w fun e w'=>e=.returned (.bool (dq b))∧Below w.heap.size w w':=by
 obtain⟨As,cs,Al,cl,rfl,hS,hL⟩:=hv;have HN:=fun W=>oG b.name hn W;obtain⟨_,_,e,mz,lQ,td⟩:=hS.open_;injection e with e1 _ e2;subst e1 e2;unfold maxLen at lQ;have HL:=zh hL;have M3:=zh td;have HD:=zh (Blk.new w 117 (zC b As cs Al cl));have HB:=zh ((yB _ w).alloc (yA _) (.cells (zC b As cs Al cl) 117));clear hS td hn hL;go_enter Tryz.func121,Tryz.ntmps121;go_wp2_with (exact zX);generalize w.alloc (.cells (zC b As cs Al cl) 117)=W1 at*
 obtain⟨y0,y1,y2,y3,y4⟩:=HD.o.c5;have qR:=HN W1;cases d0:dW b.name
 ·rw[d0] at qR;have HV:Y0 (dq b=false):=by unfold Y0;refine cN ?_;unfold de;simp only[d0];rfl
  go_wp2_with (go_at_call 126;refine qR.mono ?_;rintro e w' ⟨rfl,rfl⟩);go_ret;exact⟨Ze HV.o.symm,HB.o⟩
 rw[d0] at qR;by_cases c1:b.len<1
 ·have d1:decide (b.len<1)=true:=yD c1;have HV:Y0 (dq b=false):=by unfold Y0;refine cN ?_;unfold de;simp only[d0,d1];rfl
  go_wp2_with (go_at_call 126;refine qR.mono ?_;rintro e w' ⟨rfl,rfl⟩);go_ret;exact⟨Ze HV.o.symm,HB.o⟩
 have d1:decide (b.len<1)=false:=yC c1;by_cases c2:1048576<b.len
 ·have d2:decide (1048576<b.len)=true:=yD c2;have HV:Y0 (dq b=false):=by unfold Y0;refine cN ?_;unfold de;simp only[d0,d1,d2];rfl
  go_wp2_with (go_at_call 126;refine qR.mono ?_;rintro e w' ⟨rfl,rfl⟩);go_ret;exact⟨Ze HV.o.symm,HB.o⟩
 have d2:decide (1048576<b.len)=false:=yC c2;by_cases c3:b.even<0
 ·have d3:decide (b.even<0)=true:=yD c3;have HV:Y0 (dq b=false):=by unfold Y0;refine cN ?_;unfold de;simp only[d0,d1,d2,d3];rfl
  go_wp2_with (go_at_call 126;refine qR.mono ?_;rintro e w' ⟨rfl,rfl⟩);go_ret;exact⟨Ze HV.o.symm,HB.o⟩
 have d3:decide (b.even<0)=false:=yC c3;by_cases c4:1048576<b.even
 ·have d4:decide (1048576<b.even)=true:=yD c4;have HV:Y0 (dq b=false):=by unfold Y0;refine cN ?_;unfold de;simp only[d0,d1,d2,d3,d4];rfl
  go_wp2_with (go_at_call 126;refine qR.mono ?_;rintro e w' ⟨rfl,rfl⟩);go_ret;exact⟨Ze HV.o.symm,HB.o⟩
 have d4:decide (1048576<b.even)=false:=yC c4;by_cases c5:(b.sup.length:Int)<1
 ·have d5:decide ((b.sup.length:Int)<1)=true:=yD c5;have HV:Y0 (dq b=false):=by unfold Y0;refine cN ?_;unfold de;simp only[d0,d1,d2,d3,d4,d5];rfl
  go_wp2_with (go_at_call 126;refine qR.mono ?_;rintro e w' ⟨rfl,rfl⟩);go_ret;exact⟨Ze HV.o.symm,HB.o⟩
 have d5:decide ((b.sup.length:Int)<1)=false:=yC c5;by_cases c6:10<(b.sup.length:Int)
 ·have d6:decide (10<(b.sup.length:Int))=true:=yD c6;have HV:Y0 (dq b=false):=by unfold Y0;refine cN ?_;unfold de;simp only[d0,d1,d2,d3,d4,d5,d6];rfl
  go_wp2_with (go_at_call 126;refine qR.mono ?_;rintro e w' ⟨rfl,rfl⟩);go_ret;exact⟨Ze HV.o.symm,HB.o⟩
 have d6:decide (10<(b.sup.length:Int))=false:=yC c6;by_cases c7:40<(b.loads.length:Int)
 ·have d7:decide (40<(b.loads.length:Int))=true:=yD c7;have HV:Y0 (dq b=false):=by unfold Y0;refine cN ?_;unfold de;simp only[d0,d1,d2,d3,d4,d5,d6,d7];rfl
  go_wp2_with (go_at_call 126;refine qR.mono ?_;rintro e w' ⟨rfl,rfl⟩);go_ret;exact⟨Ze HV.o.symm,HB.o⟩
 have d7:decide (40<(b.loads.length:Int))=false:=yC c7;have HH:Y0 (de b=true):=by unfold Y0 de;simp only[d0,d1,d2,d3,d4,d5,d6,d7];rfl
 obtain⟨bs,os,rfl,gL,xZ⟩:=M3.o 0 (by omega);have mI:Y0 (∀j,j<b.sup.length→W1.cell? ⟨bs,os+j,none⟩=some (.int .i64 (ai b j))):=fun j hj=>by
  have h:=(HB.o.cell (p:=⟨bs,os+j,none⟩) gL).trans (xZ j hj);unfold ai;rw[yO,yN hj];exact h
 clear xZ M3;go_wp2_with (go_at_call 126;refine qR.mono ?_;rintro e w' ⟨rfl,rfl⟩);go_loopw [50] (fun x wr=>∃k:Nat,k≤b.sup.length∧x=.int .i64 k∧Y0 (cU b k=true)∧W1=wr) (fun x _=>b.sup.length-(intOf x).toNat)
 case atStart=>exact⟨0,yI _,rfl,oY b,rfl⟩
 obtain⟨k,hk,rfl,HG,rfl⟩:=hrel;by_cases aI:k<b.sup.length
 ·have z:=mI.o k aI;have i1:(0:Int)≤(k:Int):=yE _;have i2:(k:Int)<(b.sup.length:Int):=by omega
  by_cases e1:ai b k<0
  ·have f1:decide (ai b k<0)=true:=yD e1;have HV:Y0 (dq b=false):=ly aI (by unfold eQ;rw[f1];rfl);go_wp2;go_ret;exact⟨Ze HV.o.symm,HB.o⟩
  have f1:decide (ai b k<0)=false:=yC e1;by_cases e2:b.len<ai b k
  ·have f2:decide (b.len<ai b k)=true:=yD e2;have HV:Y0 (dq b=false):=ly aI (by unfold eQ;rw[f1,f2];rfl);go_wp2;go_ret;exact⟨Ze HV.o.symm,HB.o⟩
  have f2:decide (b.len<ai b k)=false:=yC e2;by_cases e3:k=0
  ·have f3':¬(0:Int)<(k:Int):=by omega
   have f3:decide ((0:Int)<(k:Int))=false:=yC f3';have HV:Y0 (cU b (k+1)=true):=iY HG.o (by unfold eQ;rw[f1,f2,decide_eq_true e3];rfl);clear e3;go_wp2;go_roundw
   case rel=>exact⟨k+1,aI,by go_num,HV,by trivial⟩
   simp[intOf];omega
  have f3:decide ((0:Int)<(k:Int))=true:=yD (by omega);have z0:=mI.o (k-1) (by omega);have i4:((k:Int)-1).toNat=k-1:=by omega
  have i5:(0:Int)≤(k:Int)-1:=by omega
  have i6:(k:Int)-1<(b.sup.length:Int):=by omega
  have v1:IntKind.i64.wrap ((k:Int)-1)=(k:Int)-1:=yF _ (by omega);have E3:Y0 (¬k=0):=e3;by_cases e4:ai b k≤ai b (k-1)
  ·have f4:decide (ai b k≤ai b (k-1))=true:=yD e4;have HV:Y0 (dq b=false):=ly aI (by unfold eQ;rw[f1,f2,f4,decide_eq_false E3.o];rfl);go_wp2;go_ret;exact⟨Ze HV.o.symm,HB.o⟩
  have f4:decide (ai b k≤ai b (k-1))=false:=yC e4;have HV:Y0 (cU b (k+1)=true):=iY HG.o (by unfold eQ;rw[f1,f2,f4,decide_eq_false E3.o];rfl);go_wp2;go_roundw
  case rel=>exact⟨k+1,aI,by go_num,HV,by trivial⟩
  simp[intOf];omega
 have GU:k=b.sup.length:=by omega
 subst GU;have HV:Y0 (dq b=b.loads.all (cL b.len)):=Qu HH.o HG.o;have hc := sH (.slice Al b.loads.length cl) b.loads 164 #[.pointer (some ⟨w.heap.size,0,none⟩)] (fun x=>!cL b.len x) RZ W1 ((HL.o.below HB.o (yA _)).mono HB.o.size)
  (fun t _ w' pd=>Sv _ t _ w' _ _ _ _ (HD.o.below pd HD.o.lt))
 go_wp2_with (go_at_call 157;refine hc.mono ?_;rintro e w' ⟨rfl,pd⟩);go_ret;refine⟨Ze ?_,HB.o.trans (pd.mono HB.o.size)⟩;rw[HV.o];exact CB _ _
def eU (b:BeamT):Int:=if dq b then (if cK b then 0 else 22) else 1
def Mi (b:BeamT) (w:World) (e:Ending) (w':World):Prop :=
 Below w.heap.size w w'∧((dq b=true∧cK b=true∧∃v,e=.returned (.tuple #[v,.int .i64 0])∧ExsAt w' v (rX b))∨(eU b≠0∧e=.returned (.tuple #[.slice none 0 0,.int .i64 (eU b)])))
def Eb (b:BeamT) (l:List Rat) (w:World) (e:Ending) (w':World):Prop :=
 Below w.heap.size w w'∧((dq b=true∧cK b=true∧gb l=true∧∃v,e=.returned (.tuple #[v,.int .i64 0])∧FrsAt w' w'.heap.size v (l.map dM))∨(∃k,k≠0∧(eU b≠0∨gb l=false)∧e=.returned (.tuple #[.slice none 0 0,.int .i64 k])∧(eU b=0→k=5)))
theorem FracsPost.tell {b:BeamT} {l:List Rat} {w w1 w':World} {e:Ending} (h:FracsPost l w1 e w') (hb:Below w.heap.size w w1) (h1:dq b=true) (h2:cK b=true):Eb b l w e w':=by
 obtain⟨pd,⟨h3,v,rfl,h4⟩|⟨h3,rfl⟩⟩:=h
 ·refine⟨hb.trans (pd.mono hb.size),.inl ⟨h1,h2,h3,v,rfl,?_⟩⟩
  have:=Flat.of_own h4;unfold FrsAt;rw[yQ];exact this
 exact⟨hb.trans (pd.mono hb.size),.inr ⟨5,by decide,.inr h3,rfl,fun _=>rfl⟩⟩
theorem V0 (v:Value) (b:BeamT) (w:World) (hv:BeamAt w w.heap.size v b) (hn:b.name.size≤maxLen):Calls Tryz.prog 143 #[v] w (Mi b w):=by
 have JW:=fun W h=>Vz v b W h hn;have JY:=fun h W h1=>LC v b W h1 h;obtain⟨As,cs,Al,cl,rfl,hS,hL⟩:=hv;have HV:Y0 (BeamAt w w.heap.size (.agg (zC b As cs Al cl)) b):=⟨As,cs,Al,cl,rfl,hS,hL⟩;have HD:=zh (Blk.new w 117 (zC b As cs Al cl));have HB:=zh ((yB _ w).alloc (yA _) (.cells (zC b As cs Al cl) 117));clear hS hL;go_enter Tryz.func143,Tryz.ntmps143;go_wp2_with (exact zX);generalize w.alloc (.cells (zC b As cs Al cl) 117)=W1 at*
 have jA:=JW W1 (HV.o.grow HB.o);have JY:=zh JY;obtain⟨y0,y1,y2,y3,y4⟩:=HD.o.c5;clear JW;cases bM:dq b
 ·rw[bM] at jA;have HE:Y0 (eU b=1):=by unfold Y0 eU;rw[bM];rfl
  go_wp2_with (go_at_call 121;refine jA.mono ?_;rintro e w2 ⟨rfl,bg⟩);go_ret2;exact⟨HB.o.trans (bg.mono HB.o.size),.inr ⟨by rw[HE.o];decide,by rw[HE.o];rfl⟩⟩
 rw[bM] at jA;have Bi:=zh bM;clear bM;cases ht:cK b
 ·have HT:=zh ht;clear ht;have HE:Y0 (eU b=22):=by unfold Y0 eU;rw[Bi.o,HT.o];rfl
  go_wp2_with (first|(go_at_call 121;refine jA.mono ?_;rintro e w2 ⟨rfl,bg⟩;have dV:=zh (HB.o.trans (bg.mono HB.o.size));have cP:=zh (HD.o.below bg HD.o.lt);clear bg;have z0:=cP.o.cell 0;have z1:=cP.o.cell 1;have z2:=cP.o.cell 2;have z3:=cP.o.cell 3;have z4:=cP.o.cell 4;simp only[aB,aD,aA] at z0 z1 z2 z3 z4;have hmo:=JY.o (j9 Bi.o) w2 (HV.o.grow dV.o);unfold AP at hmo;rw[HT.o] at hmo)|(go_at_call 190;refine hmo.mono ?_;rintro e w3 ⟨bZ,v3,rfl,h3⟩))
  go_ret2;exact⟨dV.o.trans (bZ.mono dV.o.size),.inr ⟨by rw[HE.o];decide,by rw[HE.o];rfl⟩⟩
 have HT:=zh ht;clear ht;go_wp2_with (first|(go_at_call 121;refine jA.mono ?_;rintro e w2 ⟨rfl,bg⟩;have dV:=zh (HB.o.trans (bg.mono HB.o.size));have cP:=zh (HD.o.below bg HD.o.lt);clear bg;have z0:=cP.o.cell 0;have z1:=cP.o.cell 1;have z2:=cP.o.cell 2;have z3:=cP.o.cell 3;have z4:=cP.o.cell 4;simp only[aB,aD,aA] at z0 z1 z2 z3 z4;have hmo:=JY.o (j9 Bi.o) w2 (HV.o.grow dV.o);unfold AP at hmo;rw[HT.o] at hmo)|(go_at_call 190;refine hmo.mono ?_;rintro e w3 ⟨bZ,v3,rfl,h3⟩))
 go_ret2;exact⟨dV.o.trans (bZ.mono dV.o.size),.inl ⟨Bi.o,HT.o,v3,rfl,h3⟩⟩
theorem DO (v:Value) (b:BeamT) (w:World) (hv:BeamAt w w.heap.size v b) (hn:b.name.size≤maxLen):Calls Tryz.prog 105 #[v] w (Eb b (dP b) w):=by
 have HGi:=fun W h=>V0 v b W h hn;have wI:=fun h W u h1 hu=>Sy v u b W h1 hu h;have HV:=zh hv;obtain⟨As,cs,Al,cl,rfl,hS,hL⟩:=hv;have HD:=zh (Blk.new w 117 (zC b As cs Al cl));have HB:=zh ((yB _ w).alloc (yA _) (.cells (zC b As cs Al cl) 117));clear hS hL;go_enter Tryz.func105,Tryz.ntmps105;go_wp2_with (exact zX);generalize w.alloc (.cells (zC b As cs Al cl) 117)=W1 at*;have UJ:=HGi W1 (HV.o.grow HB.o)
 have wI:=zh wI;obtain⟨y0,y1,y2,y3,y4⟩:=HD.o.c5;clear HGi;by_cases hc:dq b=true∧cK b=true
 ·obtain⟨bM,QU⟩:=hc;have HE:Y0 (¬eU b≠0):=by unfold Y0 eU;rw[bM,QU];simp
  have Bi:=zh bM;have Htl:=zh QU;clear bM QU;have qjA:Calls Tryz.prog 143 #[.agg (zC b As cs Al cl)] W1 fun e w'=>∃u,e=.returned (.tuple #[u,.int .i64 0])∧Y0 (Below W1.heap.size W1 w')∧Y0 (ExsAt w' u (rX b)):=by
   refine UJ.mono ?_;rintro e w' ⟨h1,⟨-,-,u,rfl,h2⟩|⟨h2,-⟩⟩
   ·exact⟨u,rfl,h1,h2⟩
   exact absurd h2 HE.o
  clear UJ;go_wp2_with (first|(go_at_call 143;refine qjA.mono ?_;rintro e w2 ⟨u,rfl,bg,Aj⟩;have dV:=zh (HB.o.trans (bg.o.mono HB.o.size));have cP:=zh (HD.o.below bg.o HD.o.lt);clear bg;have z0:=cP.o.cell 0;have z1:=cP.o.cell 1;have z2:=cP.o.cell 2;have z3:=cP.o.cell 3;have z4:=cP.o.cell 4;simp only[aB,aD,aA] at z0 z1 z2 z3 z4;have hre:=wI.o (j9 Bi.o) w2 u (HV.o.grow dV.o) Aj.o)|(go_at_call 145;refine hre.mono ?_;rintro e w3 ⟨bZ,v3,rfl,hE3⟩;have cY:=zh (dV.o.trans (bZ.mono dV.o.size));have hfr:=V1 v3 (dP b) w3 hE3 (by have:=(j9 Bi.o).sup1;unfold dP;simp;omega);clear bZ hE3)|(go_at_call 144;refine hfr.mono ?_;intro e w4 h4;have hT:=FracsPost.tell h4 cY.o Bi.o Htl.o;obtain⟨-,⟨-,v4,rfl,-⟩|⟨-,rfl⟩⟩:=h4))
  all_goals
   go_ret2;exact hT
 have HE:Y0 (¬(dq b=true∧cK b=true)):=hc;clear hc;have qjA:Calls Tryz.prog 143 #[.agg (zC b As cs Al cl)] W1 fun e w'=>eU b≠0∧e=.returned (.tuple #[.slice none 0 0,.int .i64 (eU b)])∧Y0 (Below W1.heap.size W1 w'):=by
  refine UJ.mono ?_;rintro e w' ⟨h1,⟨h3,h4,-⟩|⟨h2,rfl⟩⟩
  ·exact absurd ⟨h3,h4⟩ HE.o
  exact⟨h2,rfl,h1⟩
 clear UJ;generalize hk:eU b=k at*;have HK:=zh hk;clear hk;go_wp2_with (go_at_call 143;refine qjA.mono ?_;rintro e w2 ⟨hk,rfl,bg⟩;have UE:(k==0)=false:=zb hk;have CX:(k != 0)=true:=bne_iff_ne.2 hk);go_ret2;exact⟨HB.o.trans (bg.o.mono HB.o.size),.inr ⟨k,hk,.inl (by rw[HK.o];exact hk),rfl,fun h=>absurd h (by rw[HK.o];exact hk)⟩⟩
