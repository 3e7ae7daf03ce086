/- Lemmas. -/
import Derived.Test.YtmmhehgajkaniaaGreatDoorZ3
namespace Go.Proofs.YtmmhehgajkaniaaGreatDoor
set_option maxRecDepth 100000
set_option maxHeartbeats 40000000
open Go.RowKit Go.Shelf
def bF (q:Rat):Bool:=decide (q.num.natAbs≤1152921504606846976)&&decide (q.den≤1152921504606846976)
def dS (q:Rat):Value:=if bF q=true then .tuple #[.agg #[.int .i64 q.num,.int .i64 (q.den:Int)],.int .i64 0] else .tuple #[.agg #[.int .i64 0,.int .i64 0],.int .i64 5]
def frX (x:Rat) (i:Int):Nat:=if 1≤i then x.num.natAbs else 0
def frY (x:Rat) (i:Int):Nat:=if 2≤i then x.den else 0
def frC (x:Rat) (i:Int):Prop:=(1≤i→x.num.natAbs≤1152921504606846976)∧(2≤i→x.den≤1152921504606846976)
structure FrSt (w wr:World) (b1 b2:Bool) (s1 s2:Value) (x0 x1:Nat):Prop where
 a:Blk wr w.heap.size 154 #[.bool b1,s1,.bool b2,s2]
 r:Blk wr (w.heap.size+1) 29 #[.int .i64 0,.int .i64 0]
 n:Blk wr (w.heap.size+1+1) 203 #[.int .u64 (x0:Int),.int .u64 (x1:Int)]
 b:Below w.heap.size w wr
theorem FrSt.alloc {w wr:World} {b1 b2:Bool} {s1 s2:Value} {x0 x1:Nat} (h:FrSt w wr b1 b2 s1 s2 x0 x1) (o:Obj):FrSt w (wr.alloc o) b1 b2 s1 s2 x0 x1 :=
 ⟨h.a.alloc o,h.r.alloc o,h.n.alloc o,h.b.alloc h.b.size o⟩
theorem FrSt.set0 {w wr:World} {b1 b2:Bool} {s1 s2:Value} {x0 x1:Nat} (h:FrSt w wr b1 b2 s1 s2 x0 x1) (y:Nat):FrSt w (wr.setCell ⟨w.heap.size+1+1,0,none⟩ (.int .u64 (y:Int))) b1 b2 s1 s2 y x1 :=
 ⟨h.a.far (p:=⟨w.heap.size+1+1,0,none⟩) (by show w.heap.size≠w.heap.size+1+1;omega) _,h.r.far (p:=⟨w.heap.size+1+1,0,none⟩) (by show w.heap.size+1≠w.heap.size+1+1;omega) _,h.n.set_ 0 _,h.b.setCell (p:=⟨w.heap.size+1+1,0,none⟩) (by show w.heap.size≤w.heap.size+1+1;omega) _⟩
theorem FrSt.set1 {w wr:World} {b1 b2:Bool} {s1 s2:Value} {x0 x1:Nat} (h:FrSt w wr b1 b2 s1 s2 x0 x1) (y:Nat):FrSt w (wr.setCell ⟨w.heap.size+1+1,1,none⟩ (.int .u64 (y:Int))) b1 b2 s1 s2 x0 y :=
 ⟨h.a.far (p:=⟨w.heap.size+1+1,1,none⟩) (by show w.heap.size≠w.heap.size+1+1;omega) _,h.r.far (p:=⟨w.heap.size+1+1,1,none⟩) (by show w.heap.size+1≠w.heap.size+1+1;omega) _,h.n.set_ 1 _,h.b.setCell (p:=⟨w.heap.size+1+1,1,none⟩) (by show w.heap.size≤w.heap.size+1+1;omega) _⟩
theorem FrSt.drew {w wr:World} {b1 b2:Bool} {s1 s2:Value} {x0 x1:Nat} (h:FrSt w wr b1 b2 s1 s2 x0 x1):FrSt w wr.drew b1 b2 s1 s2 x0 x1:=⟨h.a,h.r,h.n,h.b.drew⟩
theorem WAt.long {w:World} {A:Option Addr} {l c z:Nat} (h:WAt w (.slice A l c) z) (hl:2<l):18446744073709551616≤z:=by
 obtain⟨⟨A',c',L,e,_,_,Kx,rfl⟩,-⟩:=h;injection e with _ e2 _;subst e2;have h1:=Lj Kx (fun e=>by rw[e] at hl;simp at hl);have h2:4294967296^2≤4294967296^(L.length-1):=Nat.pow_le_pow_right (by decide) (by omega);omega
theorem WAt.words {w:World} {A:Option Addr} {l c z:Nat} (h:WAt w (.slice A l c) z):∃L,L.length=l∧Wok L∧wv L=z∧∀k,k<l→∃b off,A=some ⟨b,off,none⟩∧w.cell? ⟨b,off+k,none⟩=some (.int .u32 ((aQ L k:Nat):Int)):=by
 obtain⟨⟨A',c',L,e,hl,Ky,_,rfl⟩,-⟩:=h;injection e with e1 e2 e3;subst e1 e2 e3;obtain⟨_,_,e,_,_,aj⟩:=hl.open_;injection e with e1 _ e2;subst e1 e2;refine⟨L,rfl,Ky,rfl,fun k hk=>?_⟩;obtain⟨b,off,rfl,-,hx⟩:=aj k hk;exact⟨b,off,rfl,by rw[cu hk];exact hx k hk⟩
theorem vQ {x:Rat} (h:1152921504606846976<x.num.natAbs∨1152921504606846976<x.den):dS x=.tuple #[.agg #[.int .i64 0,.int .i64 0],.int .i64 5]:=by
 unfold dS;rw[if_neg];unfold bF;simp only[Bool.and_eq_true,decide_eq_true_eq];omega
theorem Vl {x:Rat} (h1:x.num.natAbs≤1152921504606846976) (h2:x.den≤1152921504606846976):dS x=.tuple #[.agg #[.int .i64 x.num,.int .i64 (x.den:Int)],.int .i64 0]:=by
 unfold dS;rw[if_pos];unfold bF;simp only[Bool.and_eq_true,decide_eq_true_eq];exact⟨h1,h2⟩
theorem LM {f:Nat→Nat} (hf:∀i,f i<4294967296) {k:Nat} (hk:k≤1):bits .or .u64 ((aw f k:Nat):Int) (IntKind.u64.wrap (((f k:Nat):Int)*2^(32*k)))=((aw f (k+1):Nat):Int):=by
 have h0:=hf 0;have h1:=hf 1;have ew:∀n:Int,IntKind.u64.wrap n=n%18446744073709551616:=fun n=>by simp[IntKind.wrap,IntKind.bits,IntKind.signed]
 obtain rfl|rfl:k=0∨k=1:=by omega
 ·have e:IntKind.u64.wrap (((f 0:Nat):Int)*2^(32*0))=((f 0:Nat):Int):=by rw[ew,Nat.mul_zero,Int.pow_zero,Int.mul_one];omega
  have e0:aw f 0=0:=rfl;rw[e,e0,bits_or_u64_nat 0 (f 0) (by decide) (by omega)];show (((0 ||| f 0:Nat)):Int)=((0+4294967296^0*f 0:Nat):Int);rw[Nat.zero_or,Nat.pow_zero,Nat.one_mul,yR]
 have e:IntKind.u64.wrap (((f 1:Nat):Int)*2^(32*1))=((4294967296*f 1:Nat):Int):=by rw[ew];omega
 have e2:aw f 1=f 0:=by show 0+4294967296^0*f 0=_;rw[Nat.pow_zero,Nat.one_mul,yR]
 rw[e,e2,bits_or_u64_nat _ _ (by omega) (by omega)];show _=((aw f 1+4294967296^1*f 1:Nat):Int);have h:=Nat.two_pow_add_eq_or_of_lt (i:=32) (b:=f 0) (by omega) (f 1);have e3:(2:Nat)^32=4294967296:=by decide
 rw[e3] at h;rw[e2,Nat.or_comm,←h,Nat.pow_one,Nat.add_comm]
theorem qjy (v:Value) (x:Rat) (w:World) (hv:ExactAt w v x):Calls Tryz.prog 109 #[v] w fun e w'=>e=.returned (dS x)∧Below w.heap.size w w':=by
 obtain⟨b1,A1,l1,c1,b2,A2,l2,c2,rfl,cB,dc⟩:=hv.form;have zP:=zh cB;have kF:=zh dc;clear hv cB dc;go_enter Tryz.func109,Tryz.ntmps109;go_wp2_with fail;have aS:Y0 (FrSt w (((w.alloc (.cells (zD b1 A1 l1 c1 b2 A2 l2 c2) 154)).alloc (.cells #[.int .i64 0,.int .i64 0] 29)).alloc (.cells #[.int .u64 0,.int .u64 0] 203)) b1 b2 (.slice A1 l1 c1) (.slice A2 l2 c2) (frX x 0) (frY x 0)):=by
  obtain⟨h1,h2,h3,h4⟩:=bV w 154 29 203 (zD b1 A1 l1 c1 b2 A2 l2 c2) #[.int .i64 0,.int .i64 0] #[.int .u64 0,.int .u64 0];exact⟨h1,h2,h3,h4⟩
 have i0:∀w',(Instr.index 204 (.agg (zD b1 A1 l1 c1 b2 A2 l2 c2)) (.int .i64 0)).run Tryz.prog w'=.ok (.agg #[.bool b1,.slice A1 l1 c1]) w':=fun _=>by kernel_rfl
 have i1:∀w',(Instr.index 204 (.agg (zD b1 A1 l1 c1 b2 A2 l2 c2)) (.int .i64 1)).run Tryz.prog w'=.ok (.agg #[.bool b2,.slice A2 l2 c2]) w':=fun _=>by kernel_rfl
 go_loopw [15] (fun ix wr=>∃i:Int,(i=0∨i=1∨i=2)∧ix=.int .i64 i∧Y0 (FrSt w wr b1 b2 (.slice A1 l1 c1) (.slice A2 l2 c2) (frX x i) (frY x i))∧Y0 (frC x i)) (fun ix _=>(2-intOf ix).toNat)
 case atStart=>exact⟨0,.inl rfl,rfl,aS,⟨fun h=>absurd h (by decide),fun h=>absurd h (by decide)⟩⟩
 clear aS;obtain⟨i,hi,rfl,aS,HC⟩:=hrel;rcases hi with rfl|rfl|rfl
 ·have HW:Y0 (WAt wr (.slice A1 l1 c1) x.num.natAbs):=zP.o.parts.1.grow aS.o.b;have oZ:=zh (aS.o.alloc (.cells #[.bool b1,.slice A1 l1 c1] 152));have HW1:=zh (HW.o.grow ((yB _ wr).alloc (yA _) (.cells #[.bool b1,.slice A1 l1 c1] 152)));clear aS HW;by_cases hl:2<l1
  ·have q0:=oZ.o.r.cell 0;have q1:=oZ.o.r.cell 1;have f0:=oZ.o.r.frozen 0;have f1:=oZ.o.r.frozen 1;simp only[aG,aH,aD] at q0 q1;have HV:Y0 (dS x=.tuple #[.agg #[.int .i64 0,.int .i64 0],.int .i64 5]):=vQ (.inl (yK (by decide) (HW1.o.long hl)));have U1:2<(l1:Int):=by omega
   clear hl;go_wp2_with fail;generalize wr.alloc (.cells #[.bool b1,.slice A1 l1 c1] 152)=W1 at*;refine YF (v:=.tuple #[.agg #[.int .i64 0,.int .i64 0],.int .i64 5]) (by simp[results,Tryz.results109,go_sem,q0,q1]) rfl ?_;exact⟨by rw[HV.o],(oZ.o.b.setCell (p:=⟨w.heap.size+1,0,none⟩) (YH _) _).setCell (p:=⟨w.heap.size+1,1,none⟩) (YH _) _⟩
  have U1:(l1:Int)≤2:=by omega
  obtain⟨L,FO,Kz,hL3,hL4⟩:=zP.o.parts.1.words;have HL2:=zh Kz;have HL3:=zh hL3;have HL4:=zh hL4;have sO:l1≤2:=by omega
  have HLl:=zh FO;clear hl Kz hL3 hL4 FO;go_wp2_with fail;obtain⟨wo,rfl⟩:∃wo:World,wo=wr:=⟨_,rfl⟩;obtain⟨W1,vj⟩:=zo (wo.alloc (.cells #[.bool b1,.slice A1 l1 c1] 152));rw[vj] at oZ HW1;simp only[vj];clear vj;go_loopw [27] (fun kx wr=>∃k:Nat,k≤l1∧kx=.int .i64 k∧Y0 (FrSt w wr b1 b2 (.slice A1 l1 c1) (.slice A2 l2 c2) (aw (aQ L) k) (frY x 0)) ) (fun kx _=>l1-(intOf kx).toNat)
  case atStart=>exact⟨0,yI _,rfl,oZ⟩
  clear oZ;obtain⟨k,hk,rfl,aS⟩:=hrel;have k0:(0:Int)≤(k:Int):=yE _;by_cases ay:k<l1
  ·have k1:(k:Int)<(l1:Int):=by omega
   have k2:(32*(k:Int)).toNat=32*k:=by omega
   obtain⟨bb,oo,rfl,hx⟩:=HL4.o k ay;have hx:=(aS.o.b.cell (p:=⟨bb,oo+k,none⟩) (World.block_lt_of_cell? _ _ hx)).trans hx;have x0:aQ L k<4294967296:=gQ HL2.o k;have HOr:=zh (LM (f:=aQ L) (fun i=>gQ HL2.o i) (show k≤1 by omega));have z1:=aS.o.n.cell 0;have z2:=aS.o.n.frozen 0;simp only[aG,aD] at z1;obtain⟨S2,Xh⟩:=zo (aw (aQ L) (k+1));rw[Xh] at HOr;have iw:=zh Xh;clear Xh;generalize aw (aQ L) k=S1 at*
   generalize aQ L k=x1 at*;have x2:(x1:Int)<4294967296:=by omega
   have x3:(0:Int)≤(x1:Int):=yE _;go_wp2_with fail;refine bP 10 (by kernel_rfl) (by kernel_rfl) ?_;simp only[aM,aP,aN,aO]
   repeat (go_big_quiet_step (fail))
   refine YE ?_;go_wp2_with fail;rw[HOr.o];have dY:=zh ((aS.o.set0 S2).drew);clear aS z1 z2 hx;go_roundw
   case rel=>exact⟨k+1,by omega,by go_num,by rw[iw.o];exact dY⟩
   simp[intOf];omega
  obtain rfl:k=l1:=by omega
  have HZ:Y0 (aw (aQ L) k=x.num.natAbs):=by
   unfold Y0;rw[←HLl.o];exact HL3.o
  rw[HZ.o] at aS;have z1:=aS.o.n.cell 0;simp only[aG,aD] at z1;clear HZ HL2 HL3 HL4 HLl HW1;by_cases xV:1152921504606846976<x.num.natAbs
  ·have HV:Y0 (dS x=.tuple #[.agg #[.int .i64 0,.int .i64 0],.int .i64 5]):=vQ (.inl xV);have q0:=aS.o.r.cell 0;have q1:=aS.o.r.cell 1;have f0:=aS.o.r.frozen 0;have f1:=aS.o.r.frozen 1;simp only[aG,aH,aD] at q0 q1;have hd:decide (1152921504606846976<((x.num.natAbs:Nat):Int))=true:=yD (by omega);have nH:decide (1152921504606846976<x.num.natAbs)=true:=yD xV;clear xV;go_wp2_with fail;refine YF (v:=.tuple #[.agg #[.int .i64 0,.int .i64 0],.int .i64 5]) (by simp[results,Tryz.results109,go_sem,q0,q1]) rfl ?_
   exact⟨by rw[HV.o],(aS.o.b.setCell (p:=⟨w.heap.size+1,0,none⟩) (YH _) _).setCell (p:=⟨w.heap.size+1,1,none⟩) (YH _) _⟩
  have hd:decide (1152921504606846976<((x.num.natAbs:Nat):Int))=false:=yC (by omega);have nH:decide (1152921504606846976<x.num.natAbs)=false:=yC xV;have MS:Y0 (frC x 1):=⟨fun _=>by omega,fun h=>absurd h (by decide)⟩;clear xV;go_wp2_with fail;clear z1;go_roundw
  case rel=>exact⟨1,.inr (.inl rfl),rfl,aS,MS⟩
  simp[intOf]
 ·have HW:Y0 (WAt wr (.slice A2 l2 c2) x.den):=(Int.natAbs_natCast x.den)▸kF.o.parts.1.grow aS.o.b;have oZ:=zh (aS.o.alloc (.cells #[.bool b2,.slice A2 l2 c2] 152));have HW1:=zh (HW.o.grow ((yB _ wr).alloc (yA _) (.cells #[.bool b2,.slice A2 l2 c2] 152)));clear aS HW;by_cases hl:2<l2
  ·have q0:=oZ.o.r.cell 0;have q1:=oZ.o.r.cell 1;have f0:=oZ.o.r.frozen 0;have f1:=oZ.o.r.frozen 1;simp only[aG,aH,aD] at q0 q1;have HV:Y0 (dS x=.tuple #[.agg #[.int .i64 0,.int .i64 0],.int .i64 5]):=vQ (.inr (yK (by decide) (HW1.o.long hl)));have U1:2<(l2:Int):=by omega
   clear hl;go_wp2_with fail;generalize wr.alloc (.cells #[.bool b2,.slice A2 l2 c2] 152)=W1 at*;refine YF (v:=.tuple #[.agg #[.int .i64 0,.int .i64 0],.int .i64 5]) (by simp[results,Tryz.results109,go_sem,q0,q1]) rfl ?_;exact⟨by rw[HV.o],(oZ.o.b.setCell (p:=⟨w.heap.size+1,0,none⟩) (YH _) _).setCell (p:=⟨w.heap.size+1,1,none⟩) (YH _) _⟩
  have U1:(l2:Int)≤2:=by omega
  obtain⟨L,FO,Kz,hL3,hL4⟩:=kF.o.parts.1.words;have HL2:=zh Kz;have HL3:=zh hL3;have HL4:=zh hL4;have sO:l2≤2:=by omega
  have HLl:=zh FO;clear hl Kz hL3 hL4 FO;go_wp2_with fail;obtain⟨wo,rfl⟩:∃wo:World,wo=wr:=⟨_,rfl⟩;obtain⟨W1,vj⟩:=zo (wo.alloc (.cells #[.bool b2,.slice A2 l2 c2] 152));rw[vj] at oZ HW1;simp only[vj];clear vj;go_loopw [27] (fun kx wr=>∃k:Nat,k≤l2∧kx=.int .i64 k∧Y0 (FrSt w wr b1 b2 (.slice A1 l1 c1) (.slice A2 l2 c2) (frX x 1) (aw (aQ L) k)) ) (fun kx _=>l2-(intOf kx).toNat)
  case atStart=>exact⟨0,yI _,rfl,oZ⟩
  clear oZ;obtain⟨k,hk,rfl,aS⟩:=hrel;have k0:(0:Int)≤(k:Int):=yE _;by_cases ay:k<l2
  ·have k1:(k:Int)<(l2:Int):=by omega
   have k2:(32*(k:Int)).toNat=32*k:=by omega
   obtain⟨bb,oo,rfl,hx⟩:=HL4.o k ay;have hx:=(aS.o.b.cell (p:=⟨bb,oo+k,none⟩) (World.block_lt_of_cell? _ _ hx)).trans hx;have x0:aQ L k<4294967296:=gQ HL2.o k;have HOr:=zh (LM (f:=aQ L) (fun i=>gQ HL2.o i) (show k≤1 by omega));have z1:=aS.o.n.cell 1;have z2:=aS.o.n.frozen 1;simp only[aG,aH,aD] at z1;obtain⟨S2,Xh⟩:=zo (aw (aQ L) (k+1));rw[Xh] at HOr;have iw:=zh Xh;clear Xh;generalize aw (aQ L) k=S1 at*
   generalize aQ L k=x1 at*;have x2:(x1:Int)<4294967296:=by omega
   have x3:(0:Int)≤(x1:Int):=yE _;go_wp2_with fail;refine bP 10 (by kernel_rfl) (by kernel_rfl) ?_;simp only[aM,aP,aN,aO]
   repeat (go_big_quiet_step (fail))
   refine YE ?_;go_wp2_with fail;rw[HOr.o];have dY:=zh ((aS.o.set1 S2).drew);clear aS z1 z2 hx;go_roundw
   case rel=>exact⟨k+1,by omega,by go_num,by rw[iw.o];exact dY⟩
   simp[intOf];omega
  obtain rfl:k=l2:=by omega
  have HZ:Y0 (aw (aQ L) k=x.den):=by
   unfold Y0;rw[←HLl.o];exact HL3.o
  rw[HZ.o] at aS;have z1:=aS.o.n.cell 1;simp only[aG,aH,aD] at z1;clear HZ HL2 HL3 HL4 HLl HW1;by_cases xV:1152921504606846976<x.den
  ·have HV:Y0 (dS x=.tuple #[.agg #[.int .i64 0,.int .i64 0],.int .i64 5]):=vQ (.inr xV);have q0:=aS.o.r.cell 0;have q1:=aS.o.r.cell 1;have f0:=aS.o.r.frozen 0;have f1:=aS.o.r.frozen 1;simp only[aG,aH,aD] at q0 q1;have hd:decide (1152921504606846976<((x.den:Nat):Int))=true:=yD (by omega);have nH:decide (1152921504606846976<x.den)=true:=yD xV;clear xV;go_wp2_with fail;refine YF (v:=.tuple #[.agg #[.int .i64 0,.int .i64 0],.int .i64 5]) (by simp[results,Tryz.results109,go_sem,q0,q1]) rfl ?_
   exact⟨by rw[HV.o],(aS.o.b.setCell (p:=⟨w.heap.size+1,0,none⟩) (YH _) _).setCell (p:=⟨w.heap.size+1,1,none⟩) (YH _) _⟩
  have hd:decide (1152921504606846976<((x.den:Nat):Int))=false:=yC (by omega);have nH:decide (1152921504606846976<x.den)=false:=yC xV;have MS:Y0 (frC x 2):=⟨fun _=>HC.o.1 (by decide),fun _=>by omega⟩;clear xV;go_wp2_with fail;clear z1;go_roundw
  case rel=>exact⟨2,.inr (.inr rfl),rfl,aS,MS⟩
  simp[intOf]
 obtain⟨n0,n1⟩:=aS.o.n.c2;have m1:((frX x 2:Nat):Int)≤1152921504606846976:=by have:=HC.o.1 (by decide);show (((if (1:Int)≤2 then x.num.natAbs else 0:Nat)):Int)≤_;rw[if_pos (by decide)];omega
 have m2:((frY x 2:Nat):Int)≤1152921504606846976:=by have:=HC.o.2 (by decide);show (((if (2:Int)≤2 then x.den else 0:Nat)):Int)≤_;rw[if_pos (by decide)];omega
 have HV:Y0 (dS x=.tuple #[.agg #[.int .i64 x.num,.int .i64 ((frY x 2:Nat):Int)],.int .i64 0]):=Vl (HC.o.1 (by decide)) (HC.o.2 (by decide));have HN:Y0 (x.num=if b1=true then -((frX x 2:Nat):Int) else ((frX x 2:Nat):Int)):=by
  obtain⟨neg,s',m,e,h2,h3⟩:=zP.o;simp only[Value.agg.injEq,Array.mk.injEq,List.cons.injEq,and_true,Value.bool.injEq] at e;have hm:x.num.natAbs=m:=by rw[h3];cases neg <;> simp
  show x.num=if b1=true then -((x.num.natAbs:Nat):Int) else ((x.num.natAbs:Nat):Int)
  rw[e.1,hm];exact h3
 have m3:(0:Int)≤((frX x 2:Nat):Int):=yE _;have m4:(0:Int)≤((frY x 2:Nat):Int):=yE _;generalize ((frX x 2:Nat):Int)=X at*;generalize ((frY x 2:Nat):Int)=Y at*;cases b1
 ·have HA:=aS.o.alloc (.cells #[.int .i64 (X),.int .i64 Y] 29);have a0:=HA.a.cell 0;have r0:=HA.r.cell 0;have r1:=HA.r.cell 1;have g0:=HA.r.frozen 0;have g1:=HA.r.frozen 1;simp only[aG,aH,aD] at a0 r0 r1;have HA:=zh HA;go_wp2_with fail;refine YF (v:=.tuple #[.agg #[.int .i64 (X),.int .i64 Y],.int .i64 0]) (by simp[results,Tryz.results109,go_sem,r0,r1]) rfl ?_;exact⟨by rw[HV.o,HN.o];rfl,(HA.o.b.setCell (p:=⟨w.heap.size+1,0,none⟩) (YH _) _).setCell (p:=⟨w.heap.size+1,1,none⟩) (YH _) _⟩
 have HA:=aS.o.alloc (.cells #[.int .i64 (X),.int .i64 Y] 29);have a0:=HA.a.cell 0;have r0:=HA.r.cell 0;have r1:=HA.r.cell 1;have g0:=HA.r.frozen 0;have g1:=HA.r.frozen 1;simp only[aG,aH,aD] at a0 r0 r1;have HA:=zh HA;have HAn:=aS.o.alloc (.cells #[.int .i64 (-X),.int .i64 Y] 29);have a0n:=HAn.a.cell 0;have r0n:=HAn.r.cell 0;have r1n:=HAn.r.cell 1;have g0n:=HAn.r.frozen 0;have g1n:=HAn.r.frozen 1;simp only[aG,aH,aD] at a0n r0n r1n
 have HAn:=zh HAn;go_wp2_with fail;refine YF (v:=.tuple #[.agg #[.int .i64 (-X),.int .i64 Y],.int .i64 0]) (by simp[results,Tryz.results109,go_sem,r0n,r1n]) rfl ?_;exact⟨by rw[HV.o,HN.o];rfl,(HAn.o.b.setCell (p:=⟨w.heap.size+1,0,none⟩) (YH _) _).setCell (p:=⟨w.heap.size+1,1,none⟩) (YH _) _⟩
def bQ (q:Rat) (K:Nat):Prop:=q.num.natAbs<4294967296^K∧q.den<4294967296^K
theorem aI {q:Rat} {K M:Nat} (h:bQ q K) (hM:K≤M):bQ q M:=by
 have h3:4294967296^K≤4294967296^M:=Nat.pow_le_pow_right (by decide) hM;exact⟨yK h.1 h3,yK h.2 h3⟩
theorem lY {n d:Int} {K:Nat} (hd:d≠0) (h1:n.natAbs<4294967296^K) (h2:d.natAbs<4294967296^K):bQ (Rat.divInt n d) K:=by
 obtain⟨e1,e2⟩:=rP (n:=n) hd;exact⟨by rw[e1];exact Nat.lt_of_le_of_lt (YK _ _) h1,by rw[e2];exact Nat.lt_of_le_of_lt (YK _ _) h2⟩
theorem fv {a b K M:Nat} (ha:a<4294967296^K) (hb:b<4294967296^M):a*b<4294967296^(K+M):=by
 rw[Nat.pow_add];exact Nat.mul_lt_mul'' ha hb
theorem tH (q:Rat):((q.den:Nat):Int)≠0:=by have:=q.den_nz;omega
theorem ij {a b:Rat} {K M:Nat} (ha:bQ a K) (hb:bQ b M):bQ (a+b) (K+M+1):=by
 have hd:((a.den*b.den:Nat):Int)≠0:=by have:=Nat.mul_ne_zero a.den_nz b.den_nz;omega
 have h0:=rH (K+M);rw[L0];refine lY hd ?_ ?_
 ·have h1:(a.num*b.den+b.num*a.den).natAbs≤a.num.natAbs*b.den+b.num.natAbs*a.den:=by
   refine yH (Int.natAbs_add_le _ _) ?_;rw[Int.natAbs_mul,Int.natAbs_mul,Int.natAbs_natCast,Int.natAbs_natCast];exact yA _
  have h2:=fv ha.1 hb.2;have h3:=fv hb.1 ha.2;rw[Nat.add_comm M K] at h3;rw[yW];omega
 rw[Int.natAbs_natCast];have h2:=fv ha.2 hb.2;rw[yW];omega
theorem Gc {a:Rat} {K:Nat} (ha:bQ a K):bQ (-a) K:=⟨by rw[Rat.neg_num,Int.natAbs_neg];exact ha.1,ha.2⟩
theorem dT {a b:Rat} {K M:Nat} (ha:bQ a K) (hb:bQ b M):bQ (a-b) (K+M+1):=by rw[Rat.sub_eq_add_neg];exact ij ha (Gc hb)
theorem ig {a b:Rat} {K M:Nat} (ha:bQ a K) (hb:bQ b M):bQ (a*b) (K+M):=by
 rw[Ly];refine lY (by have:=Nat.mul_ne_zero a.den_nz b.den_nz;omega) ?_ ?_
 ·rw[Int.natAbs_mul];exact fv ha.1 hb.1
 rw[Int.natAbs_natCast];exact fv ha.2 hb.2
theorem eY {a b:Rat} {K M:Nat} (hz:b.num≠0) (ha:bQ a K) (hb:bQ b M):bQ (a/b) (K+M):=by
 rw[Lz];refine lY (Int.mul_ne_zero (tH a) hz) ?_ ?_
 ·rw[Int.natAbs_mul,Int.natAbs_natCast];exact fv ha.1 hb.2
 rw[Int.natAbs_mul,Int.natAbs_natCast];exact fv ha.2 hb.1
theorem bI {n:Int} {K:Nat} (h:n.natAbs<4294967296^K) (hK:1≤K):bQ (n:Rat) K:=by
 refine⟨by rw[Rat.num_intCast];exact h,?_⟩;rw[Rat.den_intCast]
 have:4294967296^1≤4294967296^K:=Nat.pow_le_pow_right (by decide) hK;omega
structure LoadT where
 pos:Int
 wt:Int
structure BeamT where
 name:ByteArray
 len:Int
 sup:List Int
 loads:List LoadT
 even:Int
abbrev zC (x:BeamT) (a:Option Addr) (b:Nat) (c:Option Addr) (d:Nat):Array Value:=#[.string x.name,.int .i64 x.len,.slice a x.sup.length b,.slice c x.loads.length d,.int .i64 x.even]
def du (l:List Int):Int:=l.foldl (· * ·) 1
def Zu (b:Int) (l:List Int):Rat:=Rat.divInt (du l) b
def ah (b:BeamT) (i:Nat):Int:=b.sup.getD i 0
def az (b:BeamT) (f:LoadT→Option Rat) (s:Rat) (k:Nat):Rat:=(b.loads.take k).foldl (fun s x=>match f x with|some y=>s+y|none=>s) s
theorem Zl {b:BeamT} {f:LoadT→Option Rat} {s:Rat} {k:Nat} (hk:k<b.loads.length):az b f s (k+1)=match f b.loads[k] with|some y=>az b f s k+y|none=>az b f s k:=by
 unfold az;rw[List.take_succ_eq_append_getElem hk,List.foldl_append];rfl
theorem B7 {b:BeamT} {f:LoadT→Option Rat} {s:Rat} {K M:Nat} (hs:bQ s K) (hf:∀x∈b.loads,∀y,f x=some y→bQ y M):∀k,k ≤ b.loads.length→bQ (az b f s k) (K + k * (M + 1))
 | 0,_=>by rw[Nat.zero_mul];exact hs
 | k+1,hk=>by
  have ih:=B7 hs hf k (by omega);rw[Zl (by omega)];have e:K+(k+1)*(M+1)=K+k*(M+1)+M+1:=by rw[Nat.add_mul];omega
  rw[e];split
  ·rename_i y hy
   exact ij ih (hf _ (yV (by omega)) y hy)
  exact aI ih (by omega)
def al (b:BeamT):BeamT:=⟨b.name,b.len,b.sup.reverse.map (b.len - ·),b.loads.map fun x=>⟨b.len-x.pos,x.wt⟩,b.even⟩
def rY (a:Int) (x:LoadT):Option Rat:=if x.pos<a then some (Zu 1 [x.wt,a-x.pos]) else none
def iP (b:BeamT) (k:Nat):Rat:=az b (rY (ah b 0)) (Zu 2000 [b.even,ah b 0,ah b 0]) k
def bu (b:BeamT):Rat:=((0:Int):Rat)-iP b b.loads.length
def pX (lo hi:Int) (left:Bool) (x:LoadT):Option Rat :=
 if x.pos≤lo∨hi≤x.pos then none else
  some (Zu (hi-lo) [x.wt,if left then x.pos-lo else hi-x.pos,(hi-lo)*(hi-lo)-(if left then x.pos-lo else hi-x.pos)*(if left then x.pos-lo else hi-x.pos)])
def bZ (b:BeamT) (lo hi:Int) (left:Bool) (k:Nat):Rat:=az b (pX lo hi left) (Zu 4000 [b.even,hi-lo,hi-lo,hi-lo]) k
def cH (b:BeamT) (lo hi:Int) (left:Bool):Rat:=bZ b lo hi left b.loads.length
def aX (b:BeamT) (i:Nat):Int:=ah b i-ah b (i-1)
def bK (b:BeamT):Nat→Rat
 | 0=>0
 | 1=>((2*(aX b 1+aX b 2):Int):Rat)
 | i+2=>((2*(aX b (i+2)+aX b (i+3)):Int):Rat)-((aX b (i+2):Int):Rat)/bK b (i+1)*((aX b (i+2):Int):Rat)
def ki (b:BeamT) (i:Nat):Rat:=((0:Int):Rat)-cH b (ah b (i-1)) (ah b i) true-cH b (ah b i) (ah b (i+1)) false
def gK (b:BeamT):Nat→Rat
 | 0=>0
 | 1=>ki b 1-bu b*((aX b 1:Int):Rat)
 | i+2=>ki b (i+2)-((aX b (i+2):Int):Rat)/bK b (i+1)*gK b (i+1)
def zq (b:BeamT):Nat→Rat
 | 0=>bu (al b)
 | j+1=>(gK b (b.sup.length-2-j)-zq b j*((aX b (b.sup.length-1-j):Int):Rat))/bK b (b.sup.length-2-j)
def Zx (b:BeamT) (i:Nat):Rat:=if i=0 then bu b else zq b (b.sup.length-1-i)
def gp (lo hi:Int) (left:Bool) (x:LoadT):Option Rat:=if x.pos≤lo∨hi≤x.pos then none else some (Zu (hi-lo) [x.wt,if left then hi-x.pos else x.pos-lo])
def cQ (b:BeamT) (lo hi:Int) (left:Bool) (k:Nat):Rat:=az b (gp lo hi left) (Zu 2000 [b.even,hi-lo]) k
def dN (b:BeamT) (lo hi:Int) (left:Bool):Rat:=cQ b lo hi left b.loads.length
def eC (a:Int) (x:LoadT):Option Rat:=if x.pos<a then some ((x.wt:Int):Rat) else none
def dW (b:BeamT) (a:Int) (k:Nat):Rat:=az b (eC a) (Zu 1000 [b.even,a]) k
def dX (b:BeamT) (a:Int):Rat:=dW b a b.loads.length
def oH (a:Int) (x:LoadT):Option Rat:=if x.pos=a then some ((x.wt:Int):Rat) else none
def iN (b:BeamT) (a:Int) (k:Nat):Rat:=az b (oH a) ((0:Int):Rat) k
def iL (b:BeamT) (i:Nat):Rat:=iN b (ah b i) b.loads.length
def gY (b:BeamT) (i:Nat):Rat:=if 0<i then iL b i+dN b (ah b (i-1)) (ah b i) false+(Zx b (i-1)-Zx b i)/((aX b i:Int):Rat) else iL b i
def ju (b:BeamT) (i:Nat):Rat:=if i+1<b.sup.length then gY b i+dN b (ah b i) (ah b (i+1)) true+(Zx b (i+1)-Zx b i)/((aX b (i+1):Int):Rat) else gY b i
def jt (b:BeamT) (i:Nat):Rat:=if i=0 then ju b i+dX b (ah b i) else ju b i
def nX (b:BeamT) (i:Nat):Rat:=if i+1=b.sup.length then jt b i+dX (al b) (b.len-ah b i) else jt b i
def cd (b:BeamT):List Rat:=(List.range b.sup.length).map (nX b)
def jw (b:BeamT):List Rat:=(List.range b.sup.length).map (Zx b)
example:cd ⟨⟨#[]⟩,1000,[0,1000],[⟨500,10⟩],0⟩=[5,5]:=by decide +kernel
example:cd ⟨⟨#[]⟩,4000,[0,4000],[⟨1000,600⟩],500⟩=[1450,1150]:=by decide +kernel
structure BeamOk (b:BeamT):Prop where
 len:1≤b.len∧b.len≤1048576
 even:0≤b.even∧b.even≤1048576
 sup1:1≤b.sup.length∧b.sup.length≤10
 sup:∀i,i<b.sup.length→0≤ah b i∧ah b i≤b.len
 inc:∀i,i+1<b.sup.length→ah b i<ah b (i+1)
 loads1:b.loads.length≤40
 loads:∀x∈b.loads,0≤x.pos∧x.pos≤b.len∧0≤x.wt∧x.wt≤67108864
theorem QA (k n:Rat) (x:Rat) (hk:1≤k) (hn:1≤n) (hx:k≤x):n≤2*(k+n)-k/x*k:=by
 have Uq:(0:Rat)<x:=by grind
 have h1:k/x≤1:=Rat.not_lt.1 fun h=>by rw[Rat.lt_div_iff Uq] at h;grind
 have h2:k/x*k≤1*k:=Rat.mul_le_mul_of_nonneg_right h1 (by grind);grind
section
variable {b:BeamT}
theorem iW (h:BeamOk b) {i:Nat} (h0:1≤i) (hi:i<b.sup.length):1≤aX b i∧aX b i≤1048576:=by
 have h1:=h.inc (i-1) (by omega);rw[show i-1+1=i by omega] at h1;have h2:=h.sup i hi;have h3:=h.sup (i-1) (by omega);have h4:=h.len;unfold aX;omega
theorem pH {k:Int} (h:1≤k):(1:Rat)≤((k:Int):Rat):=by
 have:=Rat.intCast_le_intCast.2 h;simpa using this
theorem CX (h:BeamOk b):∀i,1 ≤ i→i + 1 < b.sup.length→((aX b (i + 1):Int):Rat) ≤ bK b i
 | 0,h0,_=>by omega
 | 1,_,hi=>by
  have h1:=pH (iW h (i:=1) (by omega) (by omega)).1;have h2:=pH (iW h (i:=2) (by omega) (by omega)).1;show _≤(((2*(aX b 1+aX b 2):Int)):Rat);rw[Rat.intCast_mul,Rat.intCast_add];simp only[Rat.intCast_ofNat];grind
 | i+2,_,hi=>by
  have ih:=CX h (i+1) (by omega) (by omega);have h1:=pH (iW h (i:=i+2) (by omega) (by omega)).1;have h2:=pH (iW h (i:=i+3) (by omega) (by omega)).1;have h3:=QA _ _ _ h1 h2 ih;show _≤(((2*(aX b (i+2)+aX b (i+3)):Int)):Rat)-_;rw[Rat.intCast_mul,Rat.intCast_add];simp only[Rat.intCast_ofNat];exact h3
theorem mZ (h:BeamOk b) {i:Nat} (h0:1≤i) (hi:i+1<b.sup.length):(bK b i).num≠0:=by
 have h1:=CX h i h0 hi;have h2:=pH (iW h (i:=i+1) (by omega) (by omega)).1;intro e
 have:bK b i=0:=Rat.num_eq_zero.1 e;rw[this] at h1;grind
theorem AY (x y:Int):du [x,y]=x*y:=by simp[du]
theorem Fq (x y z:Int):du [x,y,z]=x*y*z:=by simp[du]
theorem JY (x y z u:Int):du [x,y,z,u]=x*y*z*u:=by simp[du]
theorem fm {x y:Int} {K M:Nat} (hx:x.natAbs<4294967296^K) (hy:y.natAbs<4294967296^M):(x*y).natAbs<4294967296^(K+M):=by rw[Int.natAbs_mul];exact fv hx hy
theorem jh {x:Int} (h:x.natAbs<4294967296):x.natAbs<4294967296^1:=h
theorem uE {d x y:Int} (hd:d≠0) (h0:d.natAbs<4294967296) (hx:x.natAbs<4294967296) (hy:y.natAbs<4294967296):bQ (Zu d [x,y]) 5:=by
  refine aI (K := 2) (lY hd ?_ (by
   have:(4294967296:Nat)^2=18446744073709551616 := by decide
   omega)) (by decide)
  rw[AY];exact fm (jh hx) (jh hy)
theorem Gd {d x y z:Int} (hd:d≠0) (h0:d.natAbs<4294967296) (hx:x.natAbs<4294967296) (hy:y.natAbs<4294967296) (hz:z.natAbs<4294967296^2):bQ (Zu d [x,y,z]) 5:=by
  refine aI (K := 4) (lY hd ?_ (by
   have:(4294967296:Nat)^4=340282366920938463463374607431768211456 := by decide
   omega)) (by decide)
  rw[Fq];exact fm (fm (jh hx) (jh hy)) hz
theorem vwB {d x y z u:Int} (hd:d≠0) (h0:d.natAbs<4294967296) (hx:x.natAbs<4294967296) (hy:y.natAbs<4294967296) (hz:z.natAbs<4294967296) (hu:u.natAbs<4294967296):bQ (Zu d [x,y,z,u]) 5:=by
  refine aI (K := 4) (lY hd ?_ (by
   have:(4294967296:Nat)^4=340282366920938463463374607431768211456 := by decide
   omega)) (by decide)
  rw[JY];exact fm (fm (fm (jh hx) (jh hy)) (jh hz)) (jh hu)
theorem kq {f:LoadT→Option Rat} {s:Rat} (h:BeamOk b) (hs:bQ s 5) (hf:∀x∈b.loads,∀y,f x=some y→bQ y 5) {k:Nat} (hk:k≤b.loads.length):bQ (az b f s k) 245:=by
 have h1:=h.loads1;exact aI (B7 hs hf k hk) (by omega)
theorem tA (h:BeamOk b) {k:Nat} (hk:k≤b.loads.length):bQ (iP b k) 245:=by
 have h1:=h.even;have h2:=h.sup 0 h.sup1.1;have h3:=h.len;refine kq h (Gd (by decide) (by decide) (by omega) (by omega) ?_) (fun x hx y hy=>?_) hk
 ·have:(4294967296:Nat)^2=18446744073709551616:=by decide
  omega
 have h4:=h.loads x hx;unfold rY at hy;split at hy
 ·injection hy with hy;subst hy;exact uE (by decide) (by decide) (by omega) (by omega)
 cases hy
theorem dC (h:BeamOk b):bQ (bu b) 247:=aI (dT (K:=1) (bI (by decide) (yA _)) (tA h (yA _))) (by decide)
theorem Cc {l a:Int} (h0:0≤a) (h1:a≤l) (h2:l≤1048576):(l*l-a*a).natAbs<4294967296^2:=by
 have e:(4294967296:Nat)^2=18446744073709551616:=by decide
 have h3:a*a≤l*l:=Int.mul_le_mul h1 h1 h0 (by omega);have h4:l*l≤1048576*1048576:=Int.mul_le_mul h2 h2 (by omega) (by decide);have h5:=Int.mul_nonneg h0 h0;omega
theorem AK (h:BeamOk b) {lo hi:Int} (h0:0≤lo) (h1:lo<hi) (h2:hi≤b.len) (left:Bool) {k:Nat} (hk:k≤b.loads.length):bQ (bZ b lo hi left k) 245:=by
 have h3:=h.even;have h4:=h.len;refine kq h (vwB (by decide) (by decide) (by omega) (by omega) (by omega) (by omega)) (fun x hx y hy=>?_) hk;have h5:=h.loads x hx;unfold pX at hy;split at hy
 ·cases hy
 rename_i ky
 injection hy with hy;subst hy;cases left
 case true=>exact Gd (by omega) (by omega) (by omega) (by show (x.pos-lo).natAbs<_;omega) (Cc (by show 0≤x.pos-lo;omega) (by show x.pos-lo≤_;omega) (by omega))
 exact Gd (by omega) (by omega) (by omega) (by show (hi-x.pos).natAbs<_;omega) (Cc (by show 0≤hi-x.pos;omega) (by show hi-x.pos≤_;omega) (by omega))
theorem mD (h:BeamOk b) {i:Nat} (hi:i+1<b.sup.length) (left:Bool):bQ (cH b (ah b i) (ah b (i+1)) left) 245:=by
 have h1:=h.sup i (by omega);have h2:=h.sup (i+1) hi;exact AK h h1.1 (h.inc i hi) h2.2 left (yA _)
theorem po (h:BeamOk b) {i:Nat} (h0:1≤i) (hi:i+1<b.sup.length):bQ (ki b i) 493:=by
 have h1:=mD h (i:=i-1) (by omega) true;rw[show i-1+1=i by omega] at h1;exact aI (dT (dT (K:=1) (bI (by decide) (yA _)) h1) (mD h hi false)) (by decide)
theorem jR (h:BeamOk b) {i:Nat} (h0:1≤i) (hi:i<b.sup.length):bQ ((aX b i:Int):Rat) 1:=by
 have h1:=iW h h0 hi;refine bI ?_ (yA _);rw[Nat.pow_one];omega
theorem wF (h:BeamOk b) {i:Nat} (h0:1≤i) (hi:i+1<b.sup.length):bQ ((2*(aX b i+aX b (i+1)):Int):Rat) 1:=by
 have h1:=iW h h0 (by omega);have h2:=iW h (i:=i+1) (by omega) hi;refine bI ?_ (yA _);rw[Nat.pow_one];omega
theorem iR (h:BeamOk b):∀i,1 ≤ i→i + 1 < b.sup.length→bQ (bK b i) (1 + 4 * i)
 | 0,h0,_=>by omega
 | 1,_,hi=>aI (wF h (i:=1) (yA _) hi) (by decide)
 | i+2,_,hi=>by
  have ih:=iR h (i+1) (by omega) (by omega);have hz:=mZ h (i:=i+1) (by omega) (by omega);have h1:=jR h (i:=i+2) (by omega) (by omega);exact aI (dT (wF h (i:=i+2) (by omega) hi) (ig (eY hz h1 ih) h1)) (by omega)
theorem I9 (h:BeamOk b) {i:Nat} (h0:1≤i) (hi:i+2<b.sup.length):bQ (((aX b (i+1):Int):Rat)/bK b i) 38:=by
 have h1:=h.sup1;exact aI (eY (mZ h h0 (by omega)) (jR h (i:=i+1) (by omega) (by omega)) (iR h i h0 (by omega))) (by omega)
theorem nU (h:BeamOk b):∀i,1 ≤ i→i + 1 < b.sup.length→bQ (gK b i) (742 + 540 * i)
 | 0,h0,_=>by omega
 | 1,_,hi=>aI (dT (po h (i:=1) (yA _) hi) (ig (dC h) (jR h (i:=1) (yA _) (by omega)))) (by decide)
 | i+2,_,hi=>by
  have ih:=nU h (i+1) (by omega) (by omega);exact aI (dT (po h (i:=i+2) (by omega) hi) (ig (I9 h (i:=i+1) (by omega) (by omega)) ih)) (by omega)
theorem lK (h:BeamOk b):BeamOk (al b):=by
 have hs:∀i,i<b.sup.length→ah (al b) i=b.len-ah b (b.sup.length-1-i):=fun i hi=>by
  show (b.sup.reverse.map (b.len - ·)).getD i 0=_;rw[yN,yM (by simpa using hi)];simp only[Option.getD_some,List.getElem_map,List.getElem_reverse];unfold ah;rw[yN,yM (by omega)];rfl
 have hl:(al b).sup.length=b.sup.length:=by simp[al]
 refine⟨h.len,h.even,by rw[hl];exact h.sup1,fun i hi=>?_,fun i hi=>?_,by simp[al];exact h.loads1,fun x hx=>?_⟩
 ·rw[hl] at hi;rw[hs i hi]
  have:=h.sup (b.sup.length-1-i) (by omega);show 0≤b.len-_∧b.len-_≤b.len;omega
 ·rw[hl] at hi;rw[hs i (by omega),hs (i+1) hi]
  have:=h.inc (b.sup.length-1-(i+1)) (by omega);rw[show b.sup.length-1-(i+1)+1=b.sup.length-1-i by omega] at this;omega
 obtain⟨y,hy,rfl⟩:=List.mem_map.1 hx
 have:=h.loads y hy;show 0≤b.len-y.pos∧b.len-y.pos≤b.len∧0≤y.wt∧y.wt≤67108864;omega
theorem tN (h:BeamOk b):∀j,j + 1 < b.sup.length→bQ (zq b j) (247 + 6300 * j)
 | 0,_=>dC (lK h)
 | j+1,hj=>by
  have ih:=tN h j (by omega);have h1:=h.sup1;have h2:=nU h (b.sup.length-2-j) (by omega) (by omega);have h3:=iR h (b.sup.length-2-j) (by omega) (by omega);have h4:=jR h (i:=b.sup.length-1-j) (by omega) (by omega);exact aI (eY (mZ h (i:=b.sup.length-2-j) (by omega) (by omega)) (dT h2 (ig ih h4)) h3) (by omega)
theorem kk (h:BeamOk b) {i:Nat} (hi:i<b.sup.length):bQ (Zx b i) 60000:=by
 have h1:=h.sup1;unfold Zx;split
 ·exact aI (dC h) (by decide)
 exact aI (tN h (b.sup.length-1-i) (by omega)) (by omega)
theorem xC (h:BeamOk b) {lo hi:Int} (h0:0≤lo) (h1:lo<hi) (h2:hi≤b.len) (left:Bool) {k:Nat} (hk:k≤b.loads.length):bQ (cQ b lo hi left k) 245:=by
 have h3:=h.even;have h4:=h.len;refine kq h (uE (by decide) (by decide) (by omega) (by omega)) (fun x hx y hy=>?_) hk;have h5:=h.loads x hx;unfold gp at hy;split at hy
 ·cases hy
 rename_i ky
 injection hy with hy;subst hy;cases left
 case true=>exact uE (by omega) (by omega) (by omega) (by show (hi-x.pos).natAbs<_;omega)
 exact uE (by omega) (by omega) (by omega) (by show (x.pos-lo).natAbs<_;omega)
theorem kY (h:BeamOk b) {i:Nat} (hi:i+1<b.sup.length) (left:Bool):bQ (dN b (ah b i) (ah b (i+1)) left) 245:=by
 have h1:=h.sup i (by omega);have h2:=h.sup (i+1) hi;exact xC h h1.1 (h.inc i hi) h2.2 left (yA _)
theorem vw {x:LoadT} (h:0≤x.wt∧x.wt≤67108864):bQ ((x.wt:Int):Rat) 5:=by
 refine aI (K:=1) (bI ?_ (yA _)) (by decide);rw[Nat.pow_one];omega
theorem lj (h:BeamOk b) {a:Int} (h0:0≤a) (h1:a≤b.len) {k:Nat} (hk:k≤b.loads.length):bQ (dW b a k) 245:=by
 have h3:=h.even;have h4:=h.len;refine kq h (uE (by decide) (by decide) (by omega) (by omega)) (fun x hx y hy=>?_) hk;unfold eC at hy;split at hy
 ·injection hy with hy;subst hy;exact vw (h.loads x hx).2.2
 cases hy
theorem Bu (h:BeamOk b) (a:Int) {k:Nat} (hk:k≤b.loads.length):bQ (iN b a k) 245:=by
 refine kq h (aI (K:=1) (bI (by decide) (yA _)) (by decide)) (fun x hx y hy=>?_) hk;unfold oH at hy;split at hy
 ·injection hy with hy;subst hy;exact vw (h.loads x hx).2.2
 cases hy
theorem AH (h:BeamOk b) {i j:Nat} (hi:i<b.sup.length) (hj:j<b.sup.length) {k:Nat} (h0:1≤k) (hk:k<b.sup.length):bQ ((Zx b i-Zx b j)/((aX b k:Int):Rat)) 120002:=by
 have h1:=iW h h0 hk;exact aI (eY (by rw[Rat.num_intCast];omega) (dT (kk h hi) (kk h hj)) (jR h h0 hk)) (by decide)
theorem kN (h:BeamOk b) (i:Nat):bQ (iL b i) 245:=Bu h _ (yA _)
theorem nZ (h:BeamOk b) {i:Nat} (hi:i<b.sup.length):bQ (gY b i) 121000:=by
 unfold gY;split
 ·have h1:=kY h (i:=i-1) (by omega) false;rw[show i-1+1=i by omega] at h1;exact aI (ij (ij (kN h i) h1) (AH h (by omega) hi (by omega) hi)) (by decide)
 exact aI (kN h i) (by decide)
theorem nY (h:BeamOk b) {i:Nat} (hi:i<b.sup.length):bQ (ju b i) 242000:=by
 unfold ju;split
 ·exact aI (ij (ij (nZ h hi) (kY h (by omega) true)) (AH h (by omega) hi (by omega) (by omega))) (by decide)
 exact aI (nZ h hi) (by decide)
theorem Eo (h:BeamOk b) {i:Nat} (hi:i<b.sup.length):bQ (jt b i) 242300:=by
 have h1:=h.sup i hi;unfold jt;split
 ·exact aI (ij (nY h hi) (lj h h1.1 h1.2 (yA _))) (by decide)
 exact aI (nY h hi) (by decide)
end
open Go.RowKit Go.Shelf
theorem fa {a K M:Nat} (h:a<4294967296^K) (hM:K≤M):a<4294967296^M:=yK h (Nat.pow_le_pow_right (by decide) hM)
theorem eB {n K:Nat} (h:n<4294967296^K):(n:Int).natAbs<4294967296^K:=by rw[Int.natAbs_natCast];exact h
theorem ZT {x y:Int} {K:Nat} (hx:x.natAbs<4294967296^K) (hy:y.natAbs<4294967296^K):(x+y).natAbs<4294967296^(K+1):=by
 have h:=Int.natAbs_add_le x y;rw[yW];omega
theorem fl (v u:Value) (x y:Rat) (K M:Nat) (w:World) (hv:ExactAt w v x) (hu:ExactAt w u y) (hx:bQ x K) (hy:bQ y M) (hK:K+M+1≤400000) :
  Calls Tryz.prog 111 #[v,u] w (MakesE (x+y) w):=by
 obtain⟨kU,kW,kQ,kS,kT,kV,kP,kR,rfl,cB,dc⟩:=hv.form;obtain⟨qv,qw,qt,qu,pN,pO,pL,pM,rfl,nB,rS⟩:=hu.form;have HV:=zh hv;have HU:=zh hu;have HX:=zh hx;have HY:=zh hy;have zv:=zh (fm hx.1 (eB hy.2));have iw:Y0 ((y.num*(x.den:Int)).natAbs<4294967296^(K+M)):=by
  unfold Y0;rw[Nat.add_comm];exact fm hy.1 (eB hx.2)
 have nF:=zh (ZT zv.o iw.o);have gP:Y0 (((x.den:Int)*(y.den:Int)).natAbs<4294967296^(K+M+1)):=fa (fm (eB hx.2) (eB hy.2)) (YH _);have HD:Y0 ((x.den:Int)*(y.den:Int)≠0):=Int.mul_ne_zero (tH x) (tH y);have HE:Y0 (Rat.divInt (x.num*(y.den:Int)+y.num*(x.den:Int)) ((x.den:Int)*(y.den:Int))=x+y):=by
  unfold Y0;rw[L0,Int.natCast_mul]
 have zP:=zh cB;have kF:=zh dc;have Ar:=zh nB;have rh:=zh rS;have HK:=zh hK;have pc:=zh (bV w 154 154 154 (zD kU kW kQ kS kT kV kP kR) (zD qv qw qt qu pN pO pL pM) (zD false none 0 0 false none 0 0));clear hv hu cB dc nB rS hx hy hK;go_enter Tryz.func111,Tryz.ntmps111;go_wp2_with fail;generalize ((w.alloc (.cells (zD kU kW kQ kS kT kV kP kR) 154)).alloc (.cells (zD qv qw qt qu pN pO pL pM) 154)).alloc (.cells (zD false none 0 0 false none 0 0) 154)=W3 at*
 obtain⟨B1,B2,B3,bp⟩:=pc.o;have gL:=B1.cell 0;have jD:=B1.cell 1;have pP:=B1.cell 2;have qz:=B1.cell 3;have iZ:=B2.cell 0;have iz:=B2.cell 1;have qy:=B2.cell 2;have qx:=B2.cell 3;simp only[aG,aH,aD] at gL jD pP qz iZ iz qy qx;have tW:=YL gL;have vA:=YL jD;have GL:=YL pP;have GK:=YL qz;have zM:=YL iZ;have vz:=YL iz;have Ir:=YL qy;have Iq:=YL qx;have B3:=zh B3;have bp:=zh bp;clear pc B1 B2 gL jD pP qz iZ iz qy qx
 refine af 17 (fun i=>if i=4 then some (gN (x.num*(y.den:Int))) else if i=9 then some (gN (y.num*(x.den:Int))) else if i=10 then some (gN (x.num*(y.den:Int)+y.num*(x.den:Int))) else if i=15 then some (gN ((x.den:Int)*(y.den:Int))) else if i=16 then some (gE (x+y)) else none) (by kernel_rfl) (by kernel_rfl) ?_;simp only[aM,aP,aN,aO];refine zw 4 ?_;simp only[aM,aP,aN,aO]
 repeat (go_big_quiet_step (fail))
 refine YE ?_;refine ae rfl rfl ?_ ?_
 ·intro w1 ak hk;have hb:=bp.o.trans (ak.mono bp.o.size);have hC:=MakesN.g (li _ _ _ _ (K+M) w1 (zP.o.grow hb) (rh.o.grow hb) (by have:=HK.o;omega) ((fa HX.o.1 (Nat.le_add_right K M))) ((fa (eB HY.o.2) (Nat.le_add_left M K))));exact zc hC
 rintro _ ⟨IC,ID,r9l,IB,rfl⟩;simp only[Act.put,aC,aB,aA];refine zw 4 ?_;simp only[aM,aP,aN,aO]
 repeat (go_big_quiet_step (fail))
 refine YE ?_;refine ae rfl rfl ?_ ?_
 ·intro w1 ak hk;have hb:=bp.o.trans (ak.mono bp.o.size);have hC:=MakesN.g (li _ _ _ _ (K+M) w1 (Ar.o.grow hb) (kF.o.grow hb) (by have:=HK.o;omega) ((fa HY.o.1 (Nat.le_add_left M K))) ((fa (eB HX.o.2) (Nat.le_add_right K M))));exact zc hC
 rintro _ ⟨qm,qo,SQ,ql,rfl⟩;simp only[Act.put,aC,aB,aA];refine ae rfl rfl ?_ ?_
 ·intro w1 ak hk;have hb:=bp.o.trans (ak.mono bp.o.size);have h9:NumAt w1 (.agg #[.bool IC,.slice ID r9l IB]) (x.num*(y.den:Int)):=hk 9 (by decide);have P9:NumAt w1 (.agg #[.bool qm,.slice qo SQ ql]) (y.num*(x.den:Int)):=hk 14 (by decide);have hC:=MakesN.g (qjx _ _ _ _ (K+M) w1 h9 P9 (by have:=HK.o;omega) zv.o iw.o);exact zc hC
 rintro _ ⟨Sv,Sw,vzc,Ss,rfl⟩;simp only[Act.put,aC,aB,aA];refine zw 4 ?_;simp only[aM,aP,aN,aO]
 repeat (go_big_quiet_step (fail))
 refine YE ?_;refine ae rfl rfl ?_ ?_
 ·intro w1 ak hk;have hb:=bp.o.trans (ak.mono bp.o.size);have hC:=MakesN.g (li _ _ _ _ (K+M) w1 (kF.o.grow hb) (rh.o.grow hb) (by have:=HK.o;omega) ((fa (eB HX.o.2) (Nat.le_add_right K M))) ((fa (eB HY.o.2) (Nat.le_add_left M K))));exact zc hC
 rintro _ ⟨RN,RO,vzb,RL,rfl⟩;simp only[Act.put,aC,aB,aA];refine ae rfl rfl ?_ ?_
 ·intro w1 ak hk;have hb:=bp.o.trans (ak.mono bp.o.size);have h15:NumAt w1 (.agg #[.bool Sv,.slice Sw vzc Ss]) (x.num*(y.den:Int)+y.num*(x.den:Int)):=hk 15 (by decide);have Mu:NumAt w1 (.agg #[.bool RN,.slice RO vzb RL]) ((x.den:Int)*(y.den:Int)):=hk 20 (by decide);have hC:=MakesE.g (HE.o▸sE _ _ _ _ (K+M+1) w1 h15 Mu HD.o HK.o nF.o gP.o);exact zc hC
 rintro _ ⟨qq0,qq2,qqW,qqY,qqZ,qq1,qqV,qqX,rfl⟩;simp only[Act.put,aC,aB,aA];refine Zc ?_;intro w8 aJ hF;have hL:ExactAt w8 (.agg (zD qq0 qq2 qqW qqY qqZ qq1 qqV qqX)) (x+y):=hF 21;have HL:=zh hL;have bj:=zh (B3.o.below aJ B3.o.lt);have ep:=zh (bp.o.trans (aJ.mono bp.o.size));have q0:=bj.o.cell 0;have q1:=bj.o.cell 1;have q2:=bj.o.cell 2;have q3:=bj.o.cell 3;have f0:=bj.o.frozen 0;have f1:=bj.o.frozen 1
 have f2:=bj.o.frozen 2;have f3:=bj.o.frozen 3;simp only[aG,aH,aD] at q0 q1 q2 q3;clear hF hL aJ B3 bp tW vA GL GK zM vz Ir Iq;go_wp2_with fail;refine YF (v:=.agg (zD qq0 qq2 qqW qqY qqZ qq1 qqV qqX)) (by simp[results,Tryz.results111,go_sem,q0,q1,q2,q3]) rfl ?_;exact⟨bA ep.o (by omega) _ _ _ _,_,rfl,HL.o.stored bj.o _ _ _ _⟩
theorem je (v u:Value) (x y:Rat) (K M:Nat) (w:World) (hv:ExactAt w v x) (hu:ExactAt w u y) (hx:bQ x K) (hy:bQ y M) (hK:K+M+1≤400000) :
  Calls Tryz.prog 113 #[v,u] w (MakesE (x-y) w):=by
 obtain⟨kU,kW,kQ,kS,kT,kV,kP,kR,rfl,cB,dc⟩:=hv.form;obtain⟨qv,qw,qt,qu,pN,pO,pL,pM,rfl,nB,rS⟩:=hu.form;have HV:=zh hv;have HU:=zh hu;have HX:=zh hx;have HY:=zh hy;have HE:Y0 (x + -y=x-y):=(Rat.sub_eq_add_neg x y).symm;have zP:=zh cB;have kF:=zh dc;have Ar:=zh nB;have rh:=zh rS;have HK:=zh hK;have pc:=zh (bV w 154 154 154 (zD kU kW kQ kS kT kV kP kR) (zD qv qw qt qu pN pO pL pM) (zD false none 0 0 false none 0 0))
 clear hv hu cB dc nB rS hx hy hK;go_enter Tryz.func113,Tryz.ntmps113;go_wp2_with fail;generalize ((w.alloc (.cells (zD kU kW kQ kS kT kV kP kR) 154)).alloc (.cells (zD qv qw qt qu pN pO pL pM) 154)).alloc (.cells (zD false none 0 0 false none 0 0) 154)=W3 at*;obtain⟨B1,B2,B3,bp⟩:=pc.o;have gL:=B1.cell 0;have jD:=B1.cell 1;have pP:=B1.cell 2;have qz:=B1.cell 3;have iZ:=B2.cell 0;have iz:=B2.cell 1
 have qy:=B2.cell 2;have qx:=B2.cell 3;simp only[aG,aH,aD] at gL jD pP qz iZ iz qy qx;have tW:=YL gL;have vA:=YL jD;have GL:=YL pP;have GK:=YL qz;have zM:=YL iZ;have vz:=YL iz;have Ir:=YL qy;have Iq:=YL qx;have B3:=zh B3;have bp:=zh bp;clear pc B1 B2 gL jD pP qz iZ iz qy qx;refine af 8 (fun i=>if i=3 then some (gN (-y.num)) else if i=7 then some (gE (x-y)) else none) (by kernel_rfl) (by kernel_rfl) ?_
 simp only[aM,aP,aN,aO];refine zw 3 ?_;simp only[aM,aP,aN,aO]
 repeat (go_big_quiet_step (fail))
 refine YE ?_;refine ae rfl rfl ?_ ?_
 ·intro w1 ak hk;have hb:=bp.o.trans (ak.mono bp.o.size);have hC:=MakesN.g (VN _ _ w1 (Ar.o.grow hb));exact zc hC
 rintro _ ⟨r8b,r8A,r8l,r8c,rfl⟩;simp only[Act.put,aC,aB,aA];refine zw 3 ?_;simp only[aM,aP,aN,aO]
 repeat (go_big_quiet_step (fail))
 refine YE ?_;refine ae rfl rfl ?_ ?_
 ·intro w1 ak hk;have hb:=bp.o.trans (ak.mono bp.o.size);have h8:NumAt w1 (.agg #[.bool r8b,.slice r8A r8l r8c]) (-y.num):=hk 11 (by decide) 8 (by decide);have hE:ExactAt w1 (.agg (zD r8b r8A r8l r8c pN pO pL pM)) (-y):=⟨_,_,_,_,rfl,by rw[Rat.neg_num];exact h8,by rw[Rat.neg_den];exact rh.o.grow hb⟩;have hC:=MakesE.g (HE.o▸fl _ _ x (-y) K M w1 (HV.o.grow hb) hE HX.o (Gc HY.o) HK.o);exact zc hC
 rintro _ ⟨Fl,Fp,Fg,Fi,Fj,Fo,Ff,Fh,rfl⟩;simp only[Act.put,aC,aB,aA];refine Zc ?_;intro w8 aJ hF;have hL:ExactAt w8 (.agg (zD Fl Fp Fg Fi Fj Fo Ff Fh)) (x-y):=hF 12;have HL:=zh hL;have bj:=zh (B3.o.below aJ B3.o.lt);have ep:=zh (bp.o.trans (aJ.mono bp.o.size));have q0:=bj.o.cell 0;have q1:=bj.o.cell 1;have q2:=bj.o.cell 2;have q3:=bj.o.cell 3;have f0:=bj.o.frozen 0;have f1:=bj.o.frozen 1;have f2:=bj.o.frozen 2
 have f3:=bj.o.frozen 3;simp only[aG,aH,aD] at q0 q1 q2 q3;clear hF hL aJ B3 bp tW vA GL GK zM vz Ir Iq;go_wp2_with fail;refine YF (v:=.agg (zD Fl Fp Fg Fi Fj Fo Ff Fh)) (by simp[results,Tryz.results113,go_sem,q0,q1,q2,q3]) rfl ?_;exact⟨bA ep.o (by omega) _ _ _ _,_,rfl,HL.o.stored bj.o _ _ _ _⟩
theorem sF (v u:Value) (x y:Rat) (K M:Nat) (w:World) (hv:ExactAt w v x) (hu:ExactAt w u y) (hx:bQ x K) (hy:bQ y M) (hK:K+M+1≤400000) :
  Calls Tryz.prog 154 #[v,u] w (MakesE (x*y) w):=by
 obtain⟨kU,kW,kQ,kS,kT,kV,kP,kR,rfl,cB,dc⟩:=hv.form;obtain⟨qv,qw,qt,qu,pN,pO,pL,pM,rfl,nB,rS⟩:=hu.form;have HV:=zh hv;have HU:=zh hu;have HX:=zh hx;have HY:=zh hy;have zv:=zh (fm hx.1 hy.1);have iw:=zh (fm (eB hx.2) (eB hy.2));have HD:Y0 ((x.den:Int)*(y.den:Int)≠0):=Int.mul_ne_zero (tH x) (tH y);have HE:Y0 (Rat.divInt (x.num*y.num) ((x.den:Int)*(y.den:Int))=x*y):=by
  unfold Y0;rw[Ly,Int.natCast_mul]
 have zP:=zh cB;have kF:=zh dc;have Ar:=zh nB;have rh:=zh rS;have HK:=zh hK;have pc:=zh (bV w 154 154 154 (zD kU kW kQ kS kT kV kP kR) (zD qv qw qt qu pN pO pL pM) (zD false none 0 0 false none 0 0));clear hv hu cB dc nB rS hx hy hK;go_enter Tryz.func154,Tryz.ntmps154;go_wp2_with fail;generalize ((w.alloc (.cells (zD kU kW kQ kS kT kV kP kR) 154)).alloc (.cells (zD qv qw qt qu pN pO pL pM) 154)).alloc (.cells (zD false none 0 0 false none 0 0) 154)=W3 at*
 obtain⟨B1,B2,B3,bp⟩:=pc.o;have gL:=B1.cell 0;have jD:=B1.cell 1;have pP:=B1.cell 2;have qz:=B1.cell 3;have iZ:=B2.cell 0;have iz:=B2.cell 1;have qy:=B2.cell 2;have qx:=B2.cell 3;simp only[aG,aH,aD] at gL jD pP qz iZ iz qy qx;have tW:=YL gL;have vA:=YL jD;have GL:=YL pP;have GK:=YL qz;have zM:=YL iZ;have vz:=YL iz;have Ir:=YL qy;have Iq:=YL qx;have B3:=zh B3;have bp:=zh bp;clear pc B1 B2 gL jD pP qz iZ iz qy qx
 refine af 11 (fun i=>if i=4 then some (gN (x.num*y.num)) else if i=9 then some (gN ((x.den:Int)*(y.den:Int))) else if i=10 then some (gE (x*y)) else none) (by kernel_rfl) (by kernel_rfl) ?_;simp only[aM,aP,aN,aO];refine zw 4 ?_;simp only[aM,aP,aN,aO]
 repeat (go_big_quiet_step (fail))
 refine YE ?_;refine ae rfl rfl ?_ ?_
 ·intro w1 ak hk;have hb:=bp.o.trans (ak.mono bp.o.size);have hC:=MakesN.g (li _ _ _ _ (K+M) w1 (zP.o.grow hb) (Ar.o.grow hb) (by have:=HK.o;omega) ((fa HX.o.1 (Nat.le_add_right K M))) ((fa HY.o.1 (Nat.le_add_left M K))));exact zc hC
 rintro _ ⟨IC,ID,r9l,IB,rfl⟩;simp only[Act.put,aC,aB,aA];refine zw 4 ?_;simp only[aM,aP,aN,aO]
 repeat (go_big_quiet_step (fail))
 refine YE ?_;refine ae rfl rfl ?_ ?_
 ·intro w1 ak hk;have hb:=bp.o.trans (ak.mono bp.o.size);have hC:=MakesN.g (li _ _ _ _ (K+M) w1 (kF.o.grow hb) (rh.o.grow hb) (by have:=HK.o;omega) ((fa (eB HX.o.2) (Nat.le_add_right K M))) ((fa (eB HY.o.2) (Nat.le_add_left M K))));exact zc hC
 rintro _ ⟨qm,qo,SQ,ql,rfl⟩;simp only[Act.put,aC,aB,aA];refine ae rfl rfl ?_ ?_
 ·intro w1 ak hk;have hb:=bp.o.trans (ak.mono bp.o.size);have h9:NumAt w1 (.agg #[.bool IC,.slice ID r9l IB]) (x.num*y.num):=hk 9 (by decide);have P9:NumAt w1 (.agg #[.bool qm,.slice qo SQ ql]) ((x.den:Int)*(y.den:Int)):=hk 14 (by decide);have hC:=MakesE.g (HE.o▸sE _ _ _ _ (K+M) w1 h9 P9 HD.o (by have:=HK.o;omega) zv.o iw.o);exact zc hC
 rintro _ ⟨Fb,Fe,EX,EZ,Fa,Fc,EW,EY,rfl⟩;simp only[Act.put,aC,aB,aA];refine Zc ?_;intro w8 aJ hF;have hL:ExactAt w8 (.agg (zD Fb Fe EX EZ Fa Fc EW EY)) (x*y):=hF 15;have HL:=zh hL;have bj:=zh (B3.o.below aJ B3.o.lt);have ep:=zh (bp.o.trans (aJ.mono bp.o.size));have q0:=bj.o.cell 0;have q1:=bj.o.cell 1;have q2:=bj.o.cell 2;have q3:=bj.o.cell 3;have f0:=bj.o.frozen 0;have f1:=bj.o.frozen 1;have f2:=bj.o.frozen 2
 have f3:=bj.o.frozen 3;simp only[aG,aH,aD] at q0 q1 q2 q3;clear hF hL aJ B3 bp tW vA GL GK zM vz Ir Iq;go_wp2_with fail;refine YF (v:=.agg (zD Fb Fe EX EZ Fa Fc EW EY)) (by simp[results,Tryz.results154,go_sem,q0,q1,q2,q3]) rfl ?_;exact⟨bA ep.o (by omega) _ _ _ _,_,rfl,HL.o.stored bj.o _ _ _ _⟩
theorem MG (v u:Value) (x y:Rat) (K M:Nat) (w:World) (hv:ExactAt w v x) (hu:ExactAt w u y) (hx:bQ x K) (hy:bQ y M) (hz:y.num≠0) (hK:K+M+1≤400000) :
  Calls Tryz.prog 114 #[v,u] w (MakesE (x/y) w):=by
 obtain⟨kU,kW,kQ,kS,kT,kV,kP,kR,rfl,cB,dc⟩:=hv.form;obtain⟨qv,qw,qt,qu,pN,pO,pL,pM,rfl,nB,rS⟩:=hu.form;have HV:=zh hv;have HU:=zh hu;have HX:=zh hx;have HY:=zh hy;have zv:=zh (fm hx.1 (eB hy.2));have iw:=zh (fm (eB hx.2) hy.1);have HD:Y0 ((x.den:Int)*y.num≠0):=Int.mul_ne_zero (tH x) hz;have HE:Y0 (Rat.divInt (x.num*(y.den:Int)) ((x.den:Int)*y.num)=x/y):=by
  unfold Y0;rw[Lz]
 clear hz;have zP:=zh cB;have kF:=zh dc;have Ar:=zh nB;have rh:=zh rS;have HK:=zh hK;have pc:=zh (bV w 154 154 154 (zD kU kW kQ kS kT kV kP kR) (zD qv qw qt qu pN pO pL pM) (zD false none 0 0 false none 0 0));clear hv hu cB dc nB rS hx hy hK;go_enter Tryz.func114,Tryz.ntmps114;go_wp2_with fail;generalize ((w.alloc (.cells (zD kU kW kQ kS kT kV kP kR) 154)).alloc (.cells (zD qv qw qt qu pN pO pL pM) 154)).alloc (.cells (zD false none 0 0 false none 0 0) 154)=W3 at*
 obtain⟨B1,B2,B3,bp⟩:=pc.o;have gL:=B1.cell 0;have jD:=B1.cell 1;have pP:=B1.cell 2;have qz:=B1.cell 3;have iZ:=B2.cell 0;have iz:=B2.cell 1;have qy:=B2.cell 2;have qx:=B2.cell 3;simp only[aG,aH,aD] at gL jD pP qz iZ iz qy qx;have tW:=YL gL;have vA:=YL jD;have GL:=YL pP;have GK:=YL qz;have zM:=YL iZ;have vz:=YL iz;have Ir:=YL qy;have Iq:=YL qx;have B3:=zh B3;have bp:=zh bp;clear pc B1 B2 gL jD pP qz iZ iz qy qx
 refine af 11 (fun i=>if i=4 then some (gN (x.num*(y.den:Int))) else if i=9 then some (gN ((x.den:Int)*y.num)) else if i=10 then some (gE (x/y)) else none) (by kernel_rfl) (by kernel_rfl) ?_;simp only[aM,aP,aN,aO];refine zw 4 ?_;simp only[aM,aP,aN,aO]
 repeat (go_big_quiet_step (fail))
 refine YE ?_;refine ae rfl rfl ?_ ?_
 ·intro w1 ak hk;have hb:=bp.o.trans (ak.mono bp.o.size);have hC:=MakesN.g (li _ _ _ _ (K+M) w1 (zP.o.grow hb) (rh.o.grow hb) (by have:=HK.o;omega) ((fa HX.o.1 (Nat.le_add_right K M))) ((fa (eB HY.o.2) (Nat.le_add_left M K))));exact zc hC
 rintro _ ⟨IC,ID,r9l,IB,rfl⟩;simp only[Act.put,aC,aB,aA];refine zw 4 ?_;simp only[aM,aP,aN,aO]
 repeat (go_big_quiet_step (fail))
 refine YE ?_;refine ae rfl rfl ?_ ?_
 ·intro w1 ak hk;have hb:=bp.o.trans (ak.mono bp.o.size);have hC:=MakesN.g (li _ _ _ _ (K+M) w1 (kF.o.grow hb) (Ar.o.grow hb) (by have:=HK.o;omega) ((fa (eB HX.o.2) (Nat.le_add_right K M))) ((fa HY.o.1 (Nat.le_add_left M K))));exact zc hC
 rintro _ ⟨qm,qo,SQ,ql,rfl⟩;simp only[Act.put,aC,aB,aA];refine ae rfl rfl ?_ ?_
 ·intro w1 ak hk;have hb:=bp.o.trans (ak.mono bp.o.size);have h9:NumAt w1 (.agg #[.bool IC,.slice ID r9l IB]) (x.num*(y.den:Int)):=hk 9 (by decide);have P9:NumAt w1 (.agg #[.bool qm,.slice qo SQ ql]) ((x.den:Int)*y.num):=hk 14 (by decide);have hC:=MakesE.g (HE.o▸sE _ _ _ _ (K+M) w1 h9 P9 HD.o (by have:=HK.o;omega) zv.o iw.o);exact zc hC
 rintro _ ⟨Fb,Fe,EX,EZ,Fa,Fc,EW,EY,rfl⟩;simp only[Act.put,aC,aB,aA];refine Zc ?_;intro w8 aJ hF;have hL:ExactAt w8 (.agg (zD Fb Fe EX EZ Fa Fc EW EY)) (x/y):=hF 15;have HL:=zh hL;have bj:=zh (B3.o.below aJ B3.o.lt);have ep:=zh (bp.o.trans (aJ.mono bp.o.size));have q0:=bj.o.cell 0;have q1:=bj.o.cell 1;have q2:=bj.o.cell 2;have q3:=bj.o.cell 3;have f0:=bj.o.frozen 0;have f1:=bj.o.frozen 1;have f2:=bj.o.frozen 2
 have f3:=bj.o.frozen 3;simp only[aG,aH,aD] at q0 q1 q2 q3;clear hF hL aJ B3 bp tW vA GL GK zM vz Ir Iq;go_wp2_with fail;refine YF (v:=.agg (zD Fb Fe EX EZ Fa Fc EW EY)) (by simp[results,Tryz.results114,go_sem,q0,q1,q2,q3]) rfl ?_;exact⟨bA ep.o (by omega) _ _ _ _,_,rfl,HL.o.stored bj.o _ _ _ _⟩
