/- Lemmas. -/
import Derived.Shelf.Bits.Mul64
import Derived.Shelf.Strconv.Itoa3
import Derived.Test.YtmmhehgajkaniaaGreatDoorZ6
namespace Go.Proofs.YtmmhehgajkaniaaGreatDoor
set_option maxRecDepth 100000
set_option maxHeartbeats 40000000
open Go.RowKit Go.Shelf
structure FrT where
 num:Int
 den:Int
deriving DecidableEq
def FrT.cells (x:FrT):List Value:=[.int .i64 x.num,.int .i64 x.den]
abbrev FrT.val (x:FrT):Value:=.agg #[.int .i64 x.num,.int .i64 x.den]
def fM (q:Rat):FrT:=⟨q.num,(q.den:Int)⟩
def FrsAt (w:World) (B:Nat) (v:Value) (l:List FrT):Prop:=Flat w B v l.length (l.flatMap FrT.cells)
theorem FrsAt.below {w w':World} {B B':Nat} {v:Value} {l:List FrT} (h:FrsAt w B v l) (hb:Below B' w w') (hB:B≤B'):FrsAt w' B v l:=Flat.below h hb hB
theorem FrsAt.mono {w:World} {B B':Nat} {v:Value} {l:List FrT} (h:FrsAt w B v l) (hB:B≤B'):FrsAt w B' v l:=Flat.mono h hB
theorem qjs (l:List FrT) (j i:Nat) (hj:j<l.length) (hi:i<2):(l.flatMap FrT.cells)[j*2+i]?=l[j].cells[i]?:=by
 induction l generalizing j with
 | nil=>simp at hj
 | cons t l ih=>
  have h5:t.cells.length=2:=rfl;rw[List.flatMap_cons]
  cases j with
  | zero=>rw[List.getElem?_append_left (by rw[h5];omega)];simp
  | succ j=>
   rw[List.getElem?_append_right (by rw[h5];omega),h5]
   have:=ih j (by simpa using hj);rw[show (j+1)*2+i-2=j*2+i by omega,this];rfl
theorem FrsAt.open_ {w:World} {B:Nat} {v:Value} {l:List FrT} (h:FrsAt w B v l) :
  ∃A c,v=.slice A l.length c∧l.length≤c∧c≤maxLen∧∀k (_:k<l.length),∃b off,A=some ⟨b,off,none⟩∧b<B∧∀j (hj:j<l.length),w.cell? ⟨b,off+j*2,none⟩=some (.int .i64 l[j].num)∧w.cell? ⟨b,off+j*2+1,none⟩=some (.int .i64 l[j].den):=by
 obtain⟨A,c,h1,h2,h3,h4⟩:=h;refine⟨A,c,h1,h2,h3,fun k hk=>?_⟩;obtain⟨b,off,e,ao,hc⟩:=h4 (by omega);refine⟨b,off,e,ao,fun j hj=>?_⟩;have f:=fun (i:Nat) (hi:i<2) u (hu:l[j].cells[i]?=some u)=>hc (j*2+i) u ((qjs l j i hj hi).trans hu);have g:=fun (i:Nat) (hi:i<2) u (hu:l[j].cells[i]?=some u)=>(congrArg (fun o=>w.cell? ⟨b,o,none⟩) (Nat.add_assoc off (j*2) i)).trans (f i hi u hu);exact⟨g 0 (by omega) _ rfl,g 1 (by omega) _ rfl⟩
theorem Bn:(Tryz.prog.info? 29).map (fun i=>(i.zero,i.size,i.bytes))=some (some (.agg #[.int .i64 0,.int .i64 0]),2,16):=by kernel_rfl
def dM (l:List Rat):Bool:=l.all bF
def FracsPost (l:List Rat) (w:World) (e:Ending) (w':World):Prop :=
 Below w.heap.size w w'∧((dM l=true∧∃v,e=.returned (.tuple #[v,.int .i64 0])∧w'.ownsRow w.heap.size 29 2 v l.length ((l.map fM).flatMap FrT.cells))∨(dM l=false∧e=.returned (.tuple #[.slice none 0 0,.int .i64 5])))
theorem uQ {l:List Rat} {k:Nat} (hk:k<l.length) (h:bF l[k]=false):dM l=false:=by
 unfold dM;rw[List.all_eq_false];exact⟨l[k],yV hk,by rw[h];decide⟩
theorem sj {q:Rat} (h:bF q=true):dS q=.tuple #[.agg #[.int .i64 q.num,.int .i64 (q.den:Int)],.int .i64 0]:=if_pos h
theorem sk {q:Rat} (h:bF q=false):dS q=.tuple #[.agg #[.int .i64 0,.int .i64 0],.int .i64 5]:=if_neg (by rw[h];decide)
theorem qA {w w':World} {B e s n:Nat} {v:Value} {xs:List Value} (h:w.ownsRow B e s v n xs) (hb:Below w.heap.size w w'):w'.ownsRow B e s v n xs :=
 h.kept (gG (row:=none) hb) (by
  by_cases e:v.ownBlock=none
  ·exact .inl e
  exact .inr e)
theorem MF (v:Value) (l:List Rat) (w:World) (hv:ExsAt w v l) (hl:l.length≤100):Calls Tryz.prog 64 #[v] w (FracsPost l w):=by
 obtain⟨g,rfl,hR⟩:=hv;have HR:=zh hR;obtain⟨iF,Bt,oC,oB,oA⟩:=info_parts Bn;clear hR;go_enter Tryz.func64,Tryz.ntmps64;go_wp2_with fail;go_loopw [4,11] (fun ox ix wr=>∃k:Nat,k≤l.length∧ix=.int .i64 k∧Y0 (wr.ownsRow w.heap.size 29 2 ox k (((l.take k).map fM).flatMap FrT.cells))∧Y0 (dM (l.take k)=true)∧Y0 (Below w.heap.size w wr)) (fun _ ix _=>l.length-(intOf ix).toNat)
 case atStart=>exact⟨0,yI _,rfl,yJ _ _ _ _,rfl,yB _ _⟩
 obtain⟨k,hk,rfl,HO,HA,HB⟩:=hrel;have k0:(0:Int)≤(k:Int):=yE _;by_cases ay:k<l.length
 ·have k1:(k:Int)<(l.length:Int):=by omega
  obtain⟨mK,mM,mC,mI,mJ,mL,mB,mH,y0,y1,y2,y3,hE⟩:=HR.o.read (i:=k) ay;have HE:=zh (hE l[k] (yM ay));have hg:=HR.o.lt;have y0:=(HB.o.cell (p:=⟨g,k*4,none⟩) hg).trans y0;have y1:=(HB.o.cell (p:=⟨g,k*4+1,none⟩) hg).trans y1;have y2:=(HB.o.cell (p:=⟨g,k*4+2,none⟩) hg).trans y2;have y3:=(HB.o.cell (p:=⟨g,k*4+3,none⟩) hg).trans y3;have HTk:Y0 (l.take (k+1)=l.take k++[l[k]]):=aY l k ay;have gM:=zh (fun h:bF l[k]=false=>uQ ay h)
  clear hE hg;generalize l[k]=q at*;go_wp2_with fail;have hbA:=(yB wr.heap.size wr).alloc (yA _) (.cells (zD mK mM mC mI mJ mL mB mH) 154);refine (qjy _ q _ ((HE.o.grow HB.o).grow hbA)).mono ?_;rintro e w5 ⟨rfl,aR⟩;have aR:=hbA.trans (aR.mono hbA.size);have cJ:=zh (HB.o.trans (aR.mono HB.o.size));have pJ:=zh (qA HO.o aR);clear aR hbA y0 y1 y2 y3;cases hq:bF q
  case true=>
   rw[sj hq];have HQ:=zh hq;have gg:=cJ.o.size;have WA:=zh ((pJ.o.alloc (.cells #[.int .i64 q.num,.int .i64 (q.den:Int)] 29)).alloc (.cells #[.int .i64 q.num,.int .i64 (q.den:Int)] 29));have rU:=World.news_of_block (Blk.new (w5.alloc (.cells #[.int .i64 q.num,.int .i64 (q.den:Int)] 29)) 29 #[.int .i64 q.num,.int .i64 (q.den:Int)]);rw[yZ] at rU;have my:=zh rU;have HAl:Y0 (dM (l.take (k+1))=true):=by
    unfold Y0;rw[HTk.o];unfold dM;rw[List.all_append];have h:=HA.o;unfold dM at h;rw[h];simpa using HQ.o
   clear hq rU HO pJ;go_wp2_with (at_builtin;refine wpList_append_own _ rfl _ _ 27 rfl w.heap.size 29 iF (.agg #[.int .i64 0,.int .i64 0]) 2 16 Tryz.underlying27 Bt oC oB oA rfl (by decide) _ _ _ rfl WA.o ⟨w5.heap.size+1,0,none⟩ 1 1 [.int .i64 q.num,.int .i64 (q.den:Int)] rfl rfl my.o (by simp[Value.oneCell']) (by unfold maxLen;omega) (by omega) (by simp;omega) ?_;intro v' w1 fT eI _;obtain⟨g',tL,rfl⟩:=ownsRow_succ fT)
   have ie:=((cJ.o.alloc gg (.cells #[.int .i64 q.num,.int .i64 (q.den:Int)] 29)).alloc (by simp;omega) (.cells #[.int .i64 q.num,.int .i64 (q.den:Int)] 29)).grown eI (by simp;omega) (fun j ej=>(WA.o.lt j ej).1);have kH:=zh ie;have hO6:w1.ownsRow w.heap.size 29 2 (.slice (some ⟨g',0,none⟩) (k+1) tL) (k+1) (((l.take (k+1)).map fM).flatMap FrT.cells):=by
    rw[HTk.o,yS,List.flatMap_append];exact fT
   have PH:=zh hO6;clear ie hO6 fT eI WA cJ HB HA;go_roundw
   case rel=>exact⟨k+1,by omega,by go_num,PH,HAl,kH⟩
   simp[intOf];omega
  rw[sk hq];have HQ:=zh (gM.o hq);have gg:=cJ.o.size;have kH:=zh (cJ.o.alloc gg (.cells #[.int .i64 0,.int .i64 0] 29));clear hq HO pJ;go_wp2_with fail;refine YF (results_tmp2 rfl _ _ _) (by rfl) ?_;exact⟨kH.o,.inr ⟨HQ.o,rfl⟩⟩
 obtain rfl:k=l.length:=by omega
 rw[yT] at HO HA;go_wp2_with fail;refine YF (results_tmp2 rfl _ _ _) (by rfl) ?_;exact⟨HB.o,.inl ⟨HA.o,_,rfl,HO.o⟩⟩
abbrev LoadT.val (x:LoadT):Value:=.agg #[.int .i64 x.pos,.int .i64 x.wt]
theorem Ac (v:Value) (l:List LoadT) (K:Nat) (C:Array Value) (p:LoadT→Bool) (eg:∀args w,(callFunc K args).run Tryz.prog w=.ok (.enter K args) w) (w:World) (hl:LoadsAt w w.heap.size v l)
  (hf:∀t∈l,∀w',Below w.heap.size w w'→Calls Tryz.prog K (#[t.val]++C) w' fun e fV=>e=.returned (.bool (p t))∧Below w'.heap.size w' fV) :
  Calls Tryz.prog 107 #[v,.func (.func K) #[] C] w fun e w'=>e=.returned (.int .i64 (fj (l.findIdx? p)))∧Below w.heap.size w w':=by
 obtain⟨A,c,rfl,fU,cM,aj⟩:=hl.open_;unfold maxLen at cM;have HF:=zh hf;clear hf;go_enter Tryz.func107,Tryz.ntmps107;go_wp2;go_loopw [8] (fun x wr=>∃j:Nat,j≤l.length∧x=.int .i64 j∧(l.take j).findIdx? p=none∧Below w.heap.size w wr) (fun x _=>l.length-(intOf x).toNat)
 case atStart=>exact⟨0,yI _,rfl,by simp,yB _ _⟩
 obtain⟨j,hj,rfl,iu,ai⟩:=hrel;have nE:=zh iu;clear iu;by_cases ao:j<l.length
 ·obtain⟨b,off,rfl,hb,aj⟩:=aj j ao;have h0:=(ai.cell (p:=⟨b,off+j*2,none⟩) hb).trans (aj j ao).1;have h1:=(ai.cell (p:=⟨b,off+j*2+1,none⟩) hb).trans (aj j ao).2;clear aj;have bH:=HF.o l[j] (yV ao);cases hq:p l[j]
  case true=>
   rw[hq] at bH;go_wp2_with (go_at_fn K;refine (bH _ ai).mono ?_;rintro e w' ⟨rfl,ev⟩);go_ret;exact⟨by rw[ik nE.o ao hq];rfl,ai.trans (ev.mono ai.size)⟩
  rw[hq] at bH;go_wp2_with (go_at_fn K;refine (bH _ ai).mono ?_;rintro e w' ⟨rfl,ev⟩);go_roundw
  case rel=>exact⟨j+1,by omega,by go_num,fN nE.o ao hq,ai.trans (ev.mono ai.size)⟩
  simp[intOf];omega
 have oD:j=l.length:=by omega
 subst oD;go_wp2;go_ret;exact⟨by rw[←yT (l:=l),nE.o];rfl,ai⟩
theorem tJ (v:Value) (l:List LoadT) (K:Nat) (C:Array Value) (p:LoadT→Bool) (eg:∀args w,(callFunc K args).run Tryz.prog w=.ok (.enter K args) w) (w:World) (hl:LoadsAt w w.heap.size v l)
  (hf:∀t∈l,∀w',Below w.heap.size w w'→Calls Tryz.prog K (#[t.val]++C) w' fun e fV=>e=.returned (.bool (p t))∧Below w'.heap.size w' fV) :
  Calls Tryz.prog 61 #[v,.func (.func K) #[] C] w fun e w'=>e=.returned (.bool (l.any p))∧Below w.heap.size w w':=by
 have hc:=Ac v l K C p eg w hl hf;have sQ:=mU p l;have HA:=zh (jI p l);generalize fj (l.findIdx? p)=x at*;clear hf hl;go_enter Tryz.func61,Tryz.ntmps61;go_wp2_with (go_at_call 107;refine hc.mono ?_;rintro e w' ⟨rfl,ev⟩);go_ret;exact⟨Ze HA.o,ev⟩
theorem Ae (v:Value) (l:List FrT) (K:Nat) (C:Array Value) (p:FrT→Bool) (eg:∀args w,(callFunc K args).run Tryz.prog w=.ok (.enter K args) w) (w:World) (hl:FrsAt w w.heap.size v l)
  (hf:∀t∈l,∀w',Below w.heap.size w w'→Calls Tryz.prog K (#[t.val]++C) w' fun e fV=>e=.returned (.bool (p t))∧Below w'.heap.size w' fV) :
  Calls Tryz.prog 88 #[v,.func (.func K) #[] C] w fun e w'=>e=.returned (.int .i64 (fj (l.findIdx? p)))∧Below w.heap.size w w':=by
 obtain⟨A,c,rfl,fU,cM,aj⟩:=hl.open_;unfold maxLen at cM;have HF:=zh hf;clear hf;go_enter Tryz.func88,Tryz.ntmps88;go_wp2;go_loopw [8] (fun x wr=>∃j:Nat,j≤l.length∧x=.int .i64 j∧(l.take j).findIdx? p=none∧Below w.heap.size w wr) (fun x _=>l.length-(intOf x).toNat)
 case atStart=>exact⟨0,yI _,rfl,by simp,yB _ _⟩
 obtain⟨j,hj,rfl,iu,ai⟩:=hrel;have nE:=zh iu;clear iu;by_cases ao:j<l.length
 ·obtain⟨b,off,rfl,hb,aj⟩:=aj j ao;have h0:=(ai.cell (p:=⟨b,off+j*2,none⟩) hb).trans (aj j ao).1;have h1:=(ai.cell (p:=⟨b,off+j*2+1,none⟩) hb).trans (aj j ao).2;clear aj;have bH:=HF.o l[j] (yV ao);cases hq:p l[j]
  case true=>
   rw[hq] at bH;go_wp2_with (go_at_fn K;refine (bH _ ai).mono ?_;rintro e w' ⟨rfl,ev⟩);go_ret;exact⟨by rw[ik nE.o ao hq];rfl,ai.trans (ev.mono ai.size)⟩
  rw[hq] at bH;go_wp2_with (go_at_fn K;refine (bH _ ai).mono ?_;rintro e w' ⟨rfl,ev⟩);go_roundw
  case rel=>exact⟨j+1,by omega,by go_num,fN nE.o ao hq,ai.trans (ev.mono ai.size)⟩
  simp[intOf];omega
 have oD:j=l.length:=by omega
 subst oD;go_wp2;go_ret;exact⟨by rw[←yT (l:=l),nE.o];rfl,ai⟩
theorem mo (v:Value) (l:List FrT) (K:Nat) (C:Array Value) (p:FrT→Bool) (eg:∀args w,(callFunc K args).run Tryz.prog w=.ok (.enter K args) w) (w:World) (hl:FrsAt w w.heap.size v l)
  (hf:∀t∈l,∀w',Below w.heap.size w w'→Calls Tryz.prog K (#[t.val]++C) w' fun e fV=>e=.returned (.bool (p t))∧Below w'.heap.size w' fV) :
  Calls Tryz.prog 40 #[v,.func (.func K) #[] C] w fun e w'=>e=.returned (.bool (l.any p))∧Below w.heap.size w w':=by
 have hc:=Ae v l K C p eg w hl hf;have sQ:=mU p l;have HA:=zh (jI p l);generalize fj (l.findIdx? p)=x at*;clear hf hl;go_enter Tryz.func40,Tryz.ntmps40;go_wp2_with (go_at_call 88;refine hc.mono ?_;rintro e w' ⟨rfl,ev⟩);go_ret;exact⟨Ze HA.o,ev⟩
theorem QC (a b:Nat) (w:World) (_ha:a<18446744073709551616) (hb:b<18446744073709551616) :
  Calls Tryz.prog 89 #[.int .u64 a,.int .u64 b] w fun e w'=>e=.returned (.int .u64 (Nat.gcd a b:Nat))∧∃n,w.drewN n=w':=by
 go_enter Tryz.func89,Tryz.ntmps89;go_wp2;go_loopw [0,1] (fun x y wr=>∃i j n:Nat,x=.int .u64 i∧y=.int .u64 j∧j<18446744073709551616∧Y0 (Nat.gcd i j=Nat.gcd a b)∧wr=w.drewN n) (fun _ y _=>(intOf y).toNat)
 case atStart=>exact⟨a,b,0,rfl,rfl,hb,rfl,rfl⟩
 obtain⟨i,j,n,rfl,rfl,hj,HG,rfl⟩:=hrel;by_cases h0:j=0
 ·subst h0;go_wp2;go_ret;refine⟨?_,n,rfl⟩;rw[←HG.o,Nat.gcd_zero_right];rfl
 have e0:((j:Int) != 0)=true:=bne_iff_ne.2 (by omega);have e1:((j:Int)==0)=false:=zb (by omega);have e2:(i:Int).tmod (j:Int)=((i%j:Nat):Int):=(Int.ofNat_tmod i j).symm;have e3:IntKind.u64.wrap ((i%j:Nat):Int)=((i%j:Nat):Int):=by
  have:=YJ i (Nat.pos_of_ne_zero h0);show ((i%j:Nat):Int)%18446744073709551616=_;omega
 have e4:¬(j:Int)=0:=by omega
 have ao:i%j<j:=YJ i (Nat.pos_of_ne_zero h0);have PN:Y0 (Nat.gcd j (i%j)=Nat.gcd a b):=by
  unfold Y0;rw[←HG.o,Nat.gcd_comm i j,Nat.gcd_rec j i,Nat.gcd_comm]
 have HL:=zh ao;generalize i%j=m at*;clear ao h0;go_wp2;go_quiet (fail);go_wp2;go_roundw
 case rel=>exact⟨j,m,_,rfl,rfl,by have:=HL.o;omega,PN,World.drewN_drewN ..⟩
 have:=HL.o;simp[intOf];omega
theorem IA (n:Int) (w:World) (h1 : -1152921504606846976≤n) (h2:n≤1152921504606846976) :
  Calls Tryz.prog 90 #[.int .i64 n] w fun e w'=>e=.returned (.int .u64 (n.natAbs:Nat))∧w=w':=by
 by_cases h0:n<0
 ·have e1:IntKind.u64.wrap n=n+18446744073709551616:=by
   show n%18446744073709551616=_;omega
  have e2:Y0 (IntKind.u64.wrap (-(n+18446744073709551616))=((n.natAbs:Nat):Int)):=by
   show (-(n+18446744073709551616))%18446744073709551616=_;omega
  clear h1 h2;go_enter Tryz.func90,Tryz.ntmps90;go_wp2;go_ret;refine⟨?_,rfl⟩;rw[←e2.o];rfl
 have e1:Y0 (IntKind.u64.wrap n=((n.natAbs:Nat):Int)):=by
  show n%18446744073709551616=_;omega
 clear h1 h2;go_enter Tryz.func90,Tryz.ntmps90;go_wp2;go_ret;refine⟨?_,rfl⟩;rw[←e1.o];rfl
def au (x:FrT):Bool:=decide (1≤x.den)&&decide (x.den≤1152921504606846976)&&decide (-1152921504606846976≤x.num)&&decide (x.num≤1152921504606846976)&&(((Nat.gcd x.num.natAbs x.den.natAbs:Nat):Int)==1)
theorem pw (x:FrT) (w:World):Calls Tryz.prog 42 #[x.val] w fun e w'=>e=.returned (.bool (au x))∧Below w.heap.size w w':=by
 have HD:=zh (Blk.new w 29 #[.int .i64 x.num,.int .i64 x.den]);have HB:=zh ((yB _ w).alloc (yA _) (.cells #[.int .i64 x.num,.int .i64 x.den] 29));obtain⟨num,den⟩:=x;simp only at*;obtain⟨z0,z1⟩:=HD.o.c2;clear HD;go_enter Tryz.func42,Tryz.ntmps42;go_wp2;generalize w.alloc (.cells #[.int .i64 num,.int .i64 den] 29)=W1 at*;by_cases c1:1≤den;rotate_left
 ·have d1:decide (1≤den)=false:=yC c1;have HV:Y0 (au ⟨num,den⟩=false):=by unfold Y0 au;simp only[d1];rfl
  clear c1;go_quiet (fail);go_wp2;go_ret;exact⟨Ze HV.o.symm,Zf HB.o _⟩
 have d1:decide (1≤den)=true:=yD c1;by_cases c2:den≤1152921504606846976;rotate_left
 ·have d2:decide (den≤1152921504606846976)=false:=yC c2;have HV:Y0 (au ⟨num,den⟩=false):=by unfold Y0 au;simp only[d1,d2];rfl
  clear c1 c2;go_quiet (fail);go_wp2;go_ret;exact⟨Ze HV.o.symm,Zf HB.o _⟩
 have d2:decide (den≤1152921504606846976)=true:=yD c2;by_cases c3 : -1152921504606846976≤num;rotate_left
 ·have d3:decide (-1152921504606846976≤num)=false:=yC c3;have HV:Y0 (au ⟨num,den⟩=false):=by unfold Y0 au;simp only[d1,d2,d3];rfl
  clear c1 c2 c3;go_quiet (fail);go_wp2;go_ret;exact⟨Ze HV.o.symm,Zf HB.o _⟩
 have d3:decide (-1152921504606846976≤num)=true:=yD c3;by_cases c4:num≤1152921504606846976;rotate_left
 ·have d4:decide (num≤1152921504606846976)=false:=yC c4;have HV:Y0 (au ⟨num,den⟩=false):=by unfold Y0 au;simp only[d1,d2,d3,d4];rfl
  clear c1 c2 c3 c4;go_quiet (fail);go_wp2;go_ret;exact⟨Ze HV.o.symm,Zf HB.o _⟩
 have d4:decide (num≤1152921504606846976)=true:=yD c4;have HV:Y0 (au ⟨num,den⟩=(((Nat.gcd num.natAbs den.natAbs:Nat):Int)==1)):=by unfold Y0 au;simp only[d1,d2,d3,d4];rfl
 have hS:=fun n=>qp (IA num (W1.drewN n) c3 c4);have hw:IntKind.u64.wrap den=((den.natAbs:Nat):Int):=by
  show den%18446744073709551616=_;omega
 have hG:=fun n=>ui (QC num.natAbs den.natAbs (W1.drewN n) (by omega) (by omega));clear c1 c2 c3 c4;generalize Nat.gcd num.natAbs den.natAbs=g at*;go_quiet (first|(go_at_call 90;exact hS _)|(go_at_call 89;exact hG _));go_wp2;go_ret;exact⟨Ze HV.o.symm,Zf HB.o _⟩
def cw (bl:Int) (x:LoadT):Bool:=!decide (x.pos<0) && !decide (bl<x.pos) && !decide (x.wt<0) && !decide (67108864<x.wt)
def eJ (b:BeamT) (i:Nat):Bool:=!decide (ah b i<0) && !decide (b.len<ah b i)&&(decide (i=0) || !decide (ah b i≤ah b (i-1)))
def cG (b:BeamT) (k:Nat):Bool:=decide (∀i,i<k→eJ b i=true)
def cT (b:BeamT):Bool:=dw b.name && !decide (b.len<1) && !decide (1048576<b.len) && !decide (b.even<0) && !decide (1048576<b.even) && !decide ((b.sup.length:Int)<1) && !decide (10<(b.sup.length:Int)) && !decide (40<(b.loads.length:Int))
def cF (b:BeamT):Bool:=cT b&&cG b b.sup.length&&b.loads.all (cw b.len)
theorem o6 {α:Type} (l:List α) (p:α→Bool):(!l.any fun x=>!p x)=l.all p:=by
 induction l with
 | nil=>rfl
 | cons x l ih=>rw[List.any_cons,List.all_cons,Bool.not_or,Bool.not_not,ih]
theorem cA {b:BeamT} (h:cT b=false):cF b=false:=by unfold cF;rw[h];rfl
theorem lP {b:BeamT} {k:Nat} (hk:k<b.sup.length) (h:eJ b k=false):cF b=false:=by
 have:cG b b.sup.length=false:=by
  unfold cG;rw[YD];intro hh;rw[hh k hk] at h;cases h
 unfold cF;rw[this,Bool.and_false,Bool.false_and]
theorem pV (b:BeamT):cG b 0=true:=by unfold cG;simp
theorem iV {b:BeamT} {k:Nat} (h:cG b k=true) (h1:eJ b k=true):cG b (k+1)=true:=by
 unfold cG at*;rw[yO] at*;intro i hi;rcases Nat.lt_succ_iff_lt_or_eq.1 hi with h2|rfl
 ·exact h i h2
 exact h1
theorem TG {b:BeamT} (h:cT b=true) (h1:cG b b.sup.length=true):cF b=b.loads.all (cw b.len):=by unfold cF;rw[h,h1];rfl
theorem ja {b:BeamT} (h:cF b=true):BeamOk b:=by
 unfold cF cT cG at h;simp only[Bool.and_eq_true,Bool.not_eq_true',decide_eq_false_iff_not,decide_eq_true_eq,List.all_eq_true] at h;obtain⟨⟨⟨⟨⟨⟨⟨⟨⟨h0,h1⟩,h2⟩,h3⟩,h4⟩,h5⟩,h6⟩,h7⟩,h8⟩,h9⟩:=h;have h8':∀i,i<b.sup.length→¬ah b i<0∧¬b.len<ah b i∧(i=0∨¬ah b i≤ah b (i-1)):=fun i hi=>by
  have:=h8 i hi;unfold eJ at this;simpa[and_assoc] using this
 refine⟨by omega,by omega,by omega,fun i hi=>?_,fun i hi=>?_,by omega,fun x hx=>?_⟩
 ·have:=h8' i hi;omega
 ·have:=(h8' (i+1) hi).2.2;simp at this;omega
 have:=h9 x hx;unfold cw at this;simp only[Bool.and_eq_true,Bool.not_eq_true',decide_eq_false_iff_not] at this;omega
theorem Vw:∀args w,(callFunc 62 args).run Tryz.prog w=.ok (.enter 62 args) w:=enters_of Tryz.func62 (by kernel_rfl) rfl
theorem VJ (D:Nat) (x:LoadT) (bl:Int) (w:World) (n:ByteArray) (u2 u3 u4:Value) (h1:Blk w D 43 #[.string n,.int .i64 bl,u2,u3,u4]) :
  Calls Tryz.prog 62 #[x.val,.pointer (some ⟨D,0,none⟩)] w fun e w'=>e=.returned (.bool (!cw bl x))∧Below w.heap.size w w':=by
 have HB:=zh ((yB _ w).alloc (yA _) (.cells #[.int .i64 x.pos,.int .i64 x.wt] 40));have HD:=zh (Blk.new w 40 #[.int .i64 x.pos,.int .i64 x.wt]);have y:=(h1.below HB.o h1.lt).cell 1;have y0:=HD.o.cell 0;have y1:=HD.o.cell 1;simp only[aG,aH,aD] at y y0 y1;obtain⟨pos,wt⟩:=x;simp only at*;by_cases c0:pos<0
 ·have d0:decide (pos<0)=true:=yD c0;have HV:Y0 ((!cw bl ⟨pos,wt⟩)=true):=by unfold Y0 cw;simp only[d0];rfl
  clear h1;go_enter Tryz.func62,Tryz.ntmps62;go_wp2_with fail;go_ret;exact⟨Ze HV.o.symm,HB.o⟩
 have d0:decide (pos<0)=false:=yC c0;by_cases c1:bl<pos
 ·have d1:decide (bl<pos)=true:=yD c1;have HV:Y0 ((!cw bl ⟨pos,wt⟩)=true):=by unfold Y0 cw;simp only[d0,d1];rfl
  clear h1;go_enter Tryz.func62,Tryz.ntmps62;go_wp2_with fail;go_ret;exact⟨Ze HV.o.symm,HB.o⟩
 have d1:decide (bl<pos)=false:=yC c1;by_cases c2:wt<0
 ·have d2:decide (wt<0)=true:=yD c2;have HV:Y0 ((!cw bl ⟨pos,wt⟩)=true):=by unfold Y0 cw;simp only[d0,d1,d2];rfl
  clear h1;go_enter Tryz.func62,Tryz.ntmps62;go_wp2_with fail;go_ret;exact⟨Ze HV.o.symm,HB.o⟩
 have d2:decide (wt<0)=false:=yC c2;by_cases c3:67108864<wt
 ·have d3:decide (67108864<wt)=true:=yD c3;have HV:Y0 ((!cw bl ⟨pos,wt⟩)=true):=by unfold Y0 cw;simp only[d0,d1,d2,d3];rfl
  clear h1;go_enter Tryz.func62,Tryz.ntmps62;go_wp2_with fail;go_ret;exact⟨Ze HV.o.symm,HB.o⟩
 have d3:decide (67108864<wt)=false:=yC c3;have HV:Y0 ((!cw bl ⟨pos,wt⟩)=false):=by unfold Y0 cw;simp only[d0,d1,d2,d3];rfl
 clear h1;go_enter Tryz.func62,Tryz.ntmps62;go_wp2_with fail;go_ret;exact⟨Ze HV.o.symm,HB.o⟩
theorem MC (v:Value) (b:BeamT) (w:World) (hv:BeamAt w w.heap.size v b) (hn:b.name.size≤maxLen):Calls Tryz.prog 29 #[v] w fun e w'=>e=.returned (.bool (cF b))∧Below w.heap.size w w':=by
 obtain⟨As,cs,Al,cl,rfl,hS,hL⟩:=hv;have HN:=fun W=>mf b.name hn W;obtain⟨_,_,e,kZ,jT,u7⟩:=hS.open_;injection e with e1 _ e2;subst e1 e2;unfold maxLen at jT;have HL:=zh hL;have HSc:=zh u7;have HD:=zh (Blk.new w 43 (zC b As cs Al cl));have HB:=zh ((yB _ w).alloc (yA _) (.cells (zC b As cs Al cl) 43));clear hS u7 hn hL;go_enter Tryz.func29,Tryz.ntmps29;go_wp2_with (exact zX);generalize w.alloc (.cells (zC b As cs Al cl) 43)=W1 at*
 obtain⟨y0,y1,y2,y3,y4⟩:=HD.o.c5;have t6:=HN W1;cases d0:dw b.name
 ·rw[d0] at t6;have HV:Y0 (cF b=false):=by unfold Y0;refine cA ?_;unfold cT;simp only[d0];rfl
  go_wp2_with (go_at_call 35;refine t6.mono ?_;rintro e w' ⟨rfl,rfl⟩);go_ret;exact⟨Ze HV.o.symm,HB.o⟩
 rw[d0] at t6;by_cases c1:b.len<1
 ·have d1:decide (b.len<1)=true:=yD c1;have HV:Y0 (cF b=false):=by unfold Y0;refine cA ?_;unfold cT;simp only[d0,d1];rfl
  go_wp2_with (go_at_call 35;refine t6.mono ?_;rintro e w' ⟨rfl,rfl⟩);go_ret;exact⟨Ze HV.o.symm,HB.o⟩
 have d1:decide (b.len<1)=false:=yC c1;by_cases c2:1048576<b.len
 ·have d2:decide (1048576<b.len)=true:=yD c2;have HV:Y0 (cF b=false):=by unfold Y0;refine cA ?_;unfold cT;simp only[d0,d1,d2];rfl
  go_wp2_with (go_at_call 35;refine t6.mono ?_;rintro e w' ⟨rfl,rfl⟩);go_ret;exact⟨Ze HV.o.symm,HB.o⟩
 have d2:decide (1048576<b.len)=false:=yC c2;by_cases c3:b.even<0
 ·have d3:decide (b.even<0)=true:=yD c3;have HV:Y0 (cF b=false):=by unfold Y0;refine cA ?_;unfold cT;simp only[d0,d1,d2,d3];rfl
  go_wp2_with (go_at_call 35;refine t6.mono ?_;rintro e w' ⟨rfl,rfl⟩);go_ret;exact⟨Ze HV.o.symm,HB.o⟩
 have d3:decide (b.even<0)=false:=yC c3;by_cases c4:1048576<b.even
 ·have d4:decide (1048576<b.even)=true:=yD c4;have HV:Y0 (cF b=false):=by unfold Y0;refine cA ?_;unfold cT;simp only[d0,d1,d2,d3,d4];rfl
  go_wp2_with (go_at_call 35;refine t6.mono ?_;rintro e w' ⟨rfl,rfl⟩);go_ret;exact⟨Ze HV.o.symm,HB.o⟩
 have d4:decide (1048576<b.even)=false:=yC c4;by_cases c5:(b.sup.length:Int)<1
 ·have d5:decide ((b.sup.length:Int)<1)=true:=yD c5;have HV:Y0 (cF b=false):=by unfold Y0;refine cA ?_;unfold cT;simp only[d0,d1,d2,d3,d4,d5];rfl
  go_wp2_with (go_at_call 35;refine t6.mono ?_;rintro e w' ⟨rfl,rfl⟩);go_ret;exact⟨Ze HV.o.symm,HB.o⟩
 have d5:decide ((b.sup.length:Int)<1)=false:=yC c5;by_cases c6:10<(b.sup.length:Int)
 ·have d6:decide (10<(b.sup.length:Int))=true:=yD c6;have HV:Y0 (cF b=false):=by unfold Y0;refine cA ?_;unfold cT;simp only[d0,d1,d2,d3,d4,d5,d6];rfl
  go_wp2_with (go_at_call 35;refine t6.mono ?_;rintro e w' ⟨rfl,rfl⟩);go_ret;exact⟨Ze HV.o.symm,HB.o⟩
 have d6:decide (10<(b.sup.length:Int))=false:=yC c6;by_cases c7:40<(b.loads.length:Int)
 ·have d7:decide (40<(b.loads.length:Int))=true:=yD c7;have HV:Y0 (cF b=false):=by unfold Y0;refine cA ?_;unfold cT;simp only[d0,d1,d2,d3,d4,d5,d6,d7];rfl
  go_wp2_with (go_at_call 35;refine t6.mono ?_;rintro e w' ⟨rfl,rfl⟩);go_ret;exact⟨Ze HV.o.symm,HB.o⟩
 have d7:decide (40<(b.loads.length:Int))=false:=yC c7;have HH:Y0 (cT b=true):=by unfold Y0 cT;simp only[d0,d1,d2,d3,d4,d5,d6,d7];rfl
 obtain⟨bs,os,rfl,gg,By⟩:=HSc.o 0 (by omega);have np:Y0 (∀j,j<b.sup.length→W1.cell? ⟨bs,os+j,none⟩=some (.int .i64 (ah b j))):=fun j hj=>by
  have h:=(HB.o.cell (p:=⟨bs,os+j,none⟩) gg).trans (By j hj);unfold ah;rw[yN,yM hj];exact h
 clear By HSc;go_wp2_with (go_at_call 35;refine t6.mono ?_;rintro e w' ⟨rfl,rfl⟩);go_loopw [50] (fun x wr=>∃k:Nat,k≤b.sup.length∧x=.int .i64 k∧Y0 (cG b k=true)∧W1=wr) (fun x _=>b.sup.length-(intOf x).toNat)
 case atStart=>exact⟨0,yI _,rfl,pV b,rfl⟩
 obtain⟨k,hk,rfl,HG,rfl⟩:=hrel;by_cases ao:k<b.sup.length
 ·have z:=np.o k ao;have i1:(0:Int)≤(k:Int):=yE _;have i2:(k:Int)<(b.sup.length:Int):=by omega
  by_cases e1:ah b k<0
  ·have f1:decide (ah b k<0)=true:=yD e1;have HV:Y0 (cF b=false):=lP ao (by unfold eJ;rw[f1];rfl);go_wp2;go_ret;exact⟨Ze HV.o.symm,HB.o⟩
  have f1:decide (ah b k<0)=false:=yC e1;by_cases e2:b.len<ah b k
  ·have f2:decide (b.len<ah b k)=true:=yD e2;have HV:Y0 (cF b=false):=lP ao (by unfold eJ;rw[f1,f2];rfl);go_wp2;go_ret;exact⟨Ze HV.o.symm,HB.o⟩
  have f2:decide (b.len<ah b k)=false:=yC e2;by_cases e3:k=0
  ·have f3':¬(0:Int)<(k:Int):=by omega
   have f3:decide ((0:Int)<(k:Int))=false:=yC f3';have HV:Y0 (cG b (k+1)=true):=iV HG.o (by unfold eJ;rw[f1,f2,decide_eq_true e3];rfl);clear e3;go_wp2;go_roundw
   case rel=>exact⟨k+1,ao,by go_num,HV,by trivial⟩
   simp[intOf];omega
  have f3:decide ((0:Int)<(k:Int))=true:=yD (by omega);have z0:=np.o (k-1) (by omega);have i4:((k:Int)-1).toNat=k-1:=by omega
  have i5:(0:Int)≤(k:Int)-1:=by omega
  have i6:(k:Int)-1<(b.sup.length:Int):=by omega
  have v1:IntKind.i64.wrap ((k:Int)-1)=(k:Int)-1:=yF _ (by omega);have E3:Y0 (¬k=0):=e3;by_cases e4:ah b k≤ah b (k-1)
  ·have f4:decide (ah b k≤ah b (k-1))=true:=yD e4;have HV:Y0 (cF b=false):=lP ao (by unfold eJ;rw[f1,f2,f4,decide_eq_false E3.o];rfl);go_wp2;go_ret;exact⟨Ze HV.o.symm,HB.o⟩
  have f4:decide (ah b k≤ah b (k-1))=false:=yC e4;have HV:Y0 (cG b (k+1)=true):=iV HG.o (by unfold eJ;rw[f1,f2,f4,decide_eq_false E3.o];rfl);go_wp2;go_roundw
  case rel=>exact⟨k+1,ao,by go_num,HV,by trivial⟩
  simp[intOf];omega
 have oD:k=b.sup.length:=by omega
 subst oD;have HV:Y0 (cF b=b.loads.all (cw b.len)):=TG HH.o HG.o;have hc := tJ (.slice Al b.loads.length cl) b.loads 62 #[.pointer (some ⟨w.heap.size,0,none⟩)] (fun x=>!cw b.len x) Vw W1 ((HL.o.below HB.o (yA _)).mono HB.o.size)
  (fun t _ w' ev=>VJ _ t _ w' _ _ _ _ (HD.o.below ev HD.o.lt))
 go_wp2_with (go_at_call 61;refine hc.mono ?_;rintro e w' ⟨rfl,ev⟩);go_ret;refine⟨Ze ?_,HB.o.trans (ev.mono HB.o.size)⟩;rw[HV.o];exact o6 _ _
theorem Oy (v1 v2:Value) (l1 l2:List FrT) (B:Nat) (w:World) (rV:FrsAt w B v1 l1) (sO:FrsAt w B v2 l2) :
  Calls Tryz.prog 44 #[v1,v2] w fun e w'=>e=.returned (.bool (decide (l1=l2)))∧∃n,w.drewN n=w':=by
 obtain⟨A1,c1,rfl,fU,pR,fE⟩:=rV.open_;obtain⟨A2,c2,rfl,cM,nH,oJ⟩:=sO.open_;unfold maxLen at pR nH;clear rV sO;by_cases cI:l1.length=l2.length
 ·have HL:=zh cI;have hb:((l1.length:Int) != l2.length)=false:=by simp[cI]
  have vzx:l1.length≤l2.length:=by omega
  have vzw:l2.length≤l1.length:=by omega
  clear cI;go_enter Tryz.func44,Tryz.ntmps44;go_wp2;go_loopw [13] (fun s wr=>∃j:Nat,j≤l1.length∧s=.int .i64 j∧l1.take j=l2.take j∧∃n,wr=w.drewN n) (fun x _=>l1.length-(intOf x).toNat)
  case atStart=>exact⟨0,yI _,rfl,by simp,0,rfl⟩
  obtain⟨j,hj,rfl,iu,n,rfl⟩:=hrel;have nE:=zh iu;clear iu;by_cases ao:j<l1.length
  ·have mV:j<l2.length:=by omega
   obtain⟨b1,bX,rfl,ak,fE⟩:=fE j ao;obtain⟨b2,vxd,rfl,aU,oJ⟩:=oJ j mV;obtain⟨h1,h1'⟩:=fE j ao;obtain⟨h2,h2'⟩:=oJ j mV;clear fE oJ;by_cases hq:l1[j]=l2[j]
   ·have ht:(l1[j].num==l2[j].num)=true:=by rw[hq];exact beq_self_eq_true _
    have ht':(l1[j].den==l2[j].den)=true:=by rw[hq];exact beq_self_eq_true _
    have HQ:=zh hq;clear hq;go_wp2;go_quiet (fail);go_wp2;go_roundw
    case rel=>exact⟨j+1,by omega,by go_num,by rw[aY l1 j ao,aY l2 j mV,nE.o,HQ.o],_,rfl⟩
    simp[intOf];omega
   have HQ:=zh hq;by_cases hn:l1[j].num=l2[j].num
   ·have ht:(l1[j].num==l2[j].num)=true:=beq_iff_eq.2 hn;have ht':(l1[j].den==l2[j].den)=false:=zb fun h=>HQ.o (by
     cases e1:l1[j];cases e2:l2[j]
     rw[e1,e2] at hn h;simp only at hn h;rw[hn,h])
    clear hq hn;go_wp2;go_quiet (fail);go_wp2;go_ret;exact⟨Ze (by symm;rw[YD];intro e;subst e;exact HQ.o rfl),q2⟩
   have ht:(l1[j].num==l2[j].num)=false:=zb hn;clear hq hn;go_wp2;go_quiet (fail);go_wp2;go_ret;exact⟨Ze (by symm;rw[YD];intro e;subst e;exact HQ.o rfl),q2⟩
  have oD:j=l1.length:=by omega
  subst oD;go_wp2;go_ret;exact⟨Ze (by symm;rw[yO];have:=nE.o;rw[yT,HL.o,yT] at this;exact this),q1⟩
 have hb:((l1.length:Int) != l2.length)=true:=by simp;omega
 have dL:l1≠l2:=fun e=>cI (by rw[e]);go_enter Tryz.func44,Tryz.ntmps44;go_wp2;go_ret;exact⟨Ze (by symm;simpa using dL),0,rfl⟩
theorem FrsAt.grow {w w':World} {v:Value} {l:List FrT} (h:FrsAt w w.heap.size v l) (hb:Below w.heap.size w w'):FrsAt w' w'.heap.size v l:=(h.below hb (yA _)).mono hb.size
theorem Gg:∀args w,(callFunc 41 args).run Tryz.prog w=.ok (.enter 41 args) w:=enters_of Tryz.func41 (by kernel_rfl) rfl
theorem DO (x:FrT) (w:World):Calls Tryz.prog 41 #[x.val] w fun e w'=>e=.returned (.bool (!au x))∧Below w.heap.size w w':=by
 have HD:=zh (Blk.new w 29 #[.int .i64 x.num,.int .i64 x.den]);have HB:=zh ((yB _ w).alloc (yA _) (.cells #[.int .i64 x.num,.int .i64 x.den] 29));have hv:=pw x (w.alloc (.cells #[.int .i64 x.num,.int .i64 x.den] 29));obtain⟨num,den⟩:=x;simp only at*;obtain⟨z0,z1⟩:=HD.o.c2;clear HD;go_enter Tryz.func41,Tryz.ntmps41;go_wp2_with (go_at_call 42;refine hv.mono ?_;rintro e w' ⟨rfl,ev⟩);go_ret;exact⟨rfl,HB.o.trans (ev.mono HB.o.size)⟩
def bk (l:List FrT):Bool:=l.all au
theorem Lk (v1 v2:Value) (l1 l2:List FrT) (D:Nat) (T:TypeId) (w:World) (hD:Blk w D T #[v1,v2]) (h1:FrsAt w w.heap.size v1 l1) (h2:FrsAt w w.heap.size v2 l2) :
  Calls Tryz.prog 16 #[.slice (some ⟨D,0,none⟩) 2 2] w fun e w'=>e=.returned (.bool (bk l1&&bk l2))∧Below w.heap.size w w':=by
 have fU:=mo v1 l1 41 #[] (fun x=>!au x) Gg w h1 (fun t _ w' _=>DO t w');have cM:=fun W (hb:Below w.heap.size w W)=>mo v2 l2 41 #[] (fun x=>!au x) Gg W ((h2.below hb (yA _)).mono hb.size) (fun t _ w' _=>DO t w');have e1:Y0 ((l1.any fun x=>!au x) = !bk l1):=by
  unfold Y0 bk;rw[←o6,Bool.not_not]
 have e2:Y0 ((l2.any fun x=>!au x) = !bk l2):=by
  unfold Y0 bk;rw[←o6,Bool.not_not]
 rw[e1.o] at fU;rw[e2.o] at cM;have Hc2:=zh cM;have HD:=zh hD;obtain⟨y0,y1⟩:=hD.c2;clear h1 h2 cM hD;go_enter Tryz.func16,Tryz.ntmps16;go_wp2;go_loopw [7] (fun x wr=>(x=.int .i64 0∧wr=w)∨(x=.int .i64 1∧Y0 (Below w.heap.size w wr)∧Y0 (bk l1=true))∨(x=.int .i64 2∧Y0 (Below w.heap.size w wr)∧Y0 (bk l1=true)∧Y0 (bk l2=true))) (fun x _=>2-(intOf x).toNat)
 case atStart=>exact .inl ⟨rfl,rfl⟩
 rcases hrel with⟨rfl,rfl⟩|⟨rfl,HB,HA⟩|⟨rfl,HB,HA,HA2⟩
 ·rcases yL (bk l1) with hg|hg;rotate_left
  ·have HG:=zh hg;rw[hg] at fU;go_wp2_with (go_at_call 40;refine fU.mono ?_;rintro e w' ⟨rfl,ev⟩);go_ret;exact⟨Ze (by rw[HG.o];rfl),ev⟩
  rw[hg] at fU;have HG:=zh hg;clear hg;go_wp2_with (go_at_call 40;refine fU.mono ?_;rintro e w' ⟨rfl,ev⟩);go_roundw
  case rel=>exact .inr (.inl ⟨by trivial,ev,HG⟩)
  simp[intOf]
 ·have hc:=Hc2.o _ HB.o;have z1:=(HB.o.cell (p:=⟨D,1,none⟩) HD.o.lt).trans y1;rcases yL (bk l2) with hg|hg;rotate_left
  ·have HG:=zh hg;rw[hg] at hc;go_wp2_with (go_at_call 40;refine hc.mono ?_;rintro e w' ⟨rfl,ev⟩);go_ret;exact⟨Ze (by rw[HA.o,HG.o];rfl),HB.o.trans (ev.mono HB.o.size)⟩
  rw[hg] at hc;have HG:=zh hg;clear hg;go_wp2_with (go_at_call 40;refine hc.mono ?_;rintro e w' ⟨rfl,ev⟩);go_roundw
  case rel=>exact .inr (.inr ⟨by trivial,HB.o.trans (ev.mono HB.o.size),HA,HG⟩)
  simp[intOf]
 go_wp2;go_ret;exact⟨Ze (by rw[HA.o,HA2.o];rfl),HB.o⟩
theorem Im (v1 v2:Value) (l1 l2:List FrT) (B:Nat) (w:World) (rV:FrsAt w B v1 l1) (sO:FrsAt w B v2 l2) :
  Calls Tryz.prog 18 #[v1,v2] w fun e w'=>e=.returned (.bool (decide (l1=l2)))∧∃n,w.drewN n=w':=by
 have hE:=Oy v1 v2 l1 l2 B w rV sO;go_enter Tryz.func18,Tryz.ntmps18;go_wp2_with (go_at_call 44;refine hE.mono ?_;rintro e w' ⟨rfl,n,rfl⟩);go_ret;exact⟨rfl,n,rfl⟩
def TQ:Ren:=⟨fun|264=>173|n=>n,fun|46=>140|53=>65|n=>n,fun n=>n⟩
theorem NJ:Lays.n264 Tryz.prog TQ:={
 mixed:=by kernel_rfl
 f264:=Tryz.func173.trans (congrArg some (by kernel_rfl))
 t46:=Tryz.underlying140
 a46:=Tryz.isAgg140
 z46:=Tryz.sizeOf140
 v46:=Tryz.zeroValue140
 t53:=Tryz.underlying65
 a53:=Tryz.isAgg65
 z53:=Tryz.sizeOf65
 v53:=Tryz.zeroValue65 }
theorem OJ (x y:Nat) (hx:x<18446744073709551616) (hy:y<18446744073709551616) (w:World) :
  Calls Tryz.prog 173 #[.int .u64 x,.int .u64 y] w fun e w'=>e=.returned (.tuple #[.int .u64 ((x*y/18446744073709551616:Nat):Int),.int .u64 ((x*y%18446744073709551616:Nat):Int)])∧w'=w :=
 Any.bits_Mul64 NJ x y hx hy w
def LZ:Ren:=⟨fun|129=>200|171=>46|243=>93|246=>134|283=>169|284=>170|285=>171|286=>172|317=>199|318=>201|319=>202|320=>203|337=>213|338=>214|n=>n,fun|0=>0|2=>2|3=>3|4=>4|5=>5|9=>9|20=>20|37=>200|46=>140|51=>205|53=>65|171=>224|173=>227|212=>251|213=>252|232=>257|233=>258|n=>n,fun|17=>0|18=>1|19=>2|n=>n⟩
theorem F0:Lays.n171 Tryz.prog LZ:={
 mixed:=by kernel_rfl
 f129:=Tryz.func200.trans (congrArg some (by kernel_rfl))
 f171:=Tryz.func46.trans (congrArg some (by kernel_rfl))
 f243:=Tryz.func93.trans (congrArg some (by kernel_rfl))
 f246:=Tryz.func134.trans (congrArg some (by kernel_rfl))
 f283:=Tryz.func169.trans (congrArg some (by kernel_rfl))
 f284:=Tryz.func170.trans (congrArg some (by kernel_rfl))
 f285:=Tryz.func171.trans (congrArg some (by kernel_rfl))
 f286:=Tryz.func172.trans (congrArg some (by kernel_rfl))
 f317:=Tryz.func199.trans (congrArg some (by kernel_rfl))
 f318:=Tryz.func201.trans (congrArg some (by kernel_rfl))
 f319:=Tryz.func202.trans (congrArg some (by kernel_rfl))
 f320:=Tryz.func203.trans (congrArg some (by kernel_rfl))
 f337:=Tryz.func213.trans (congrArg some (by kernel_rfl))
 f338:=Tryz.func214.trans (congrArg some (by kernel_rfl))
 t0:=Tryz.underlying0
 a0:=Tryz.isAgg0
 z0:=Tryz.sizeOf0
 v0:=Tryz.zeroValue0
 t2:=Tryz.underlying2
 a2:=Tryz.isAgg2
 z2:=Tryz.sizeOf2
 v2:=Tryz.zeroValue2
 t3:=Tryz.underlying3
 a3:=Tryz.isAgg3
 z3:=Tryz.sizeOf3
 v3:=Tryz.zeroValue3
 t4:=Tryz.underlying4
 a4:=Tryz.isAgg4
 z4:=Tryz.sizeOf4
 v4:=Tryz.zeroValue4
 t5:=Tryz.underlying5
 a5:=Tryz.isAgg5
 z5:=Tryz.sizeOf5
 v5:=Tryz.zeroValue5
 t9:=Tryz.underlying9
 a9:=Tryz.isAgg9
 z9:=Tryz.sizeOf9
 v9:=Tryz.zeroValue9
 t20:=Tryz.underlying20
 a20:=Tryz.isAgg20
 z20:=Tryz.sizeOf20
 v20:=Tryz.zeroValue20
 t37:=Tryz.underlying200
 a37:=Tryz.isAgg200
 z37:=Tryz.sizeOf200
 v37:=Tryz.zeroValue200
 t46:=Tryz.underlying140
 a46:=Tryz.isAgg140
 z46:=Tryz.sizeOf140
 v46:=Tryz.zeroValue140
 t51:=Tryz.underlying205
 a51:=Tryz.isAgg205
 z51:=Tryz.sizeOf205
 v51:=Tryz.zeroValue205
 t53:=Tryz.underlying65
 a53:=Tryz.isAgg65
 z53:=Tryz.sizeOf65
 v53:=Tryz.zeroValue65
 t171:=Tryz.underlying224
 a171:=Tryz.isAgg224
 z171:=Tryz.sizeOf224
 v171:=Tryz.zeroValue224
 t173:=Tryz.underlying227
 a173:=Tryz.isAgg227
 z173:=Tryz.sizeOf227
 v173:=Tryz.zeroValue227
 t212:=Tryz.underlying251
 a212:=Tryz.isAgg251
 z212:=Tryz.sizeOf251
 v212:=Tryz.zeroValue251
 t213:=Tryz.underlying252
 a213:=Tryz.isAgg252
 z213:=Tryz.sizeOf252
 t232:=Tryz.underlying257
 a232:=Tryz.isAgg257
 z232:=Tryz.sizeOf257
 v232:=Tryz.zeroValue257
 t233:=Tryz.underlying258
 a233:=Tryz.isAgg258
 z233:=Tryz.sizeOf258
 v233:=Tryz.zeroValue258
 g17:=by kernel_rfl
 g18:=by kernel_rfl
 g19:=by kernel_rfl }
def F3 (i:Nat):ByteArray:=⟨(Lib.decDigits i).toArray⟩
theorem XE (i:Nat) (hi:i<100) (w:World):Calls Tryz.prog 46 #[.int .i64 i] w fun e w'=>e=.returned (.string (F3 i))∧w'=w :=
 Any.strconv_Itoa_small F0 i hi w
abbrev fq (n:Nat):Value:=.agg #[.int .u64 ((n/18446744073709551616:Nat):Int),.int .u64 ((n%18446744073709551616:Nat):Int)]
theorem N6 (x y:Nat) (hx:x<18446744073709551616) (hy:y<18446744073709551616) (w:World) :
  Calls Tryz.prog 135 #[.int .u64 x,.int .u64 y] w fun e w'=>e=.returned (fq (x*y))∧Below w.heap.size w w':=by
 have hM:=fun W=>OJ x y hx hy W;have HD:=zh (Blk.new w 185 #[.int .u64 0,.int .u64 0]);have HB:=zh ((yB _ w).alloc (yA _) (.cells #[.int .u64 0,.int .u64 0] 185));clear hx hy;unfold fq;generalize ((x*y/18446744073709551616:Nat):Int)=h at*;generalize ((x*y%18446744073709551616:Nat):Int)=l at*;have z0:=HD.o.cell 0;have z1:=HD.o.cell 1;have f0:=HD.o.frozen 0;have f1:=HD.o.frozen 1;simp only[aG,aH,aD] at z0 z1
 go_enter Tryz.func135,Tryz.ntmps135;go_wp2_with (go_at_call 173;refine (hM _).mono ?_;rintro e w' ⟨rfl,rfl⟩);refine YF (v:=.agg #[.int .u64 h,.int .u64 l]) (by simp[results,Tryz.results135,go_sem]) rfl ?_;exact⟨rfl,(yB _ w).alloc (yA _) _⟩
theorem BE {m n K:Nat} (hK:0<K):m<n↔m/K<n/K∨(m/K=n/K∧m%K<n%K):=by
 have hm:=YI m K;have hn:=YI n K;have h1:=YJ m hK;have h2:=YJ n hK;constructor
 ·intro h;rcases Nat.lt_trichotomy (m/K) (n/K) with h3|h3|h3
  ·exact .inl h3
  ·refine .inr ⟨h3,?_⟩;rw[h3] at hm;omega
  exfalso
  have:K*(n/K+1)≤K*(m/K):=Nat.mul_le_mul_left K h3;rw[yX] at this;omega
 rintro (h3|⟨h3,h4⟩)
 ·have:K*(m/K+1)≤K*(n/K):=Nat.mul_le_mul_left K h3;rw[yX] at this;omega
 rw[h3] at hm;omega
theorem QB (m n:Nat) (w:World):Calls Tryz.prog 174 #[fq m,fq n] w fun e w'=>e=.returned (.bool (decide (m<n)))∧Below w.heap.size w w':=by
 have HV:Y0 ((m<n)↔_):=BE (m:=m) (n:=n) (K:=18446744073709551616) (by decide);have HD:=zh (Blk.new w 185 #[.int .u64 ((m/18446744073709551616:Nat):Int),.int .u64 ((m%18446744073709551616:Nat):Int)]);have cY:=zh ((Blk.new w 185 #[.int .u64 ((m/18446744073709551616:Nat):Int),.int .u64 ((m%18446744073709551616:Nat):Int)]).alloc (.cells #[.int .u64 ((n/18446744073709551616:Nat):Int),.int .u64 ((n%18446744073709551616:Nat):Int)] 185))
 have HB:=zh (((yB _ w).alloc (yA _) (.cells #[.int .u64 ((m/18446744073709551616:Nat):Int),.int .u64 ((m%18446744073709551616:Nat):Int)] 185)).alloc (by simp) (.cells #[.int .u64 ((n/18446744073709551616:Nat):Int),.int .u64 ((n%18446744073709551616:Nat):Int)] 185));unfold fq;generalize m/18446744073709551616=mh at*;generalize m%18446744073709551616=ml at*;generalize n/18446744073709551616=nh at*;generalize n%18446744073709551616=nl at*
 by_cases h1:mh<nh
 ·have d1:decide (mh<nh)=true:=yD h1;have HR:Y0 (decide (m<n)=true):=yD (HV.o.2 (.inl h1));clear h1;go_enter Tryz.func174,Tryz.ntmps174;go_wp2;go_ret;exact⟨Ze HR.o.symm,HB.o⟩
 have d1:decide (mh<nh)=false:=yC h1;by_cases h2:mh=nh
 ·subst h2;have HR:Y0 (decide (m<n)=decide (ml<nl)):=by
   unfold Y0;rw[Bool.eq_iff_iff,yO,yO,HV.o];omega
  clear h1;go_enter Tryz.func174,Tryz.ntmps174;go_wp2;go_ret;exact⟨Ze HR.o.symm,HB.o⟩
 have d2:((mh:Int)==(nh:Int))=false:=zb (by omega);have HR:Y0 (decide (m<n)=false):=yC (by rw[HV.o];omega);clear h1 h2;go_enter Tryz.func174,Tryz.ntmps174;go_wp2;go_ret;exact⟨Ze HR.o.symm,HB.o⟩
