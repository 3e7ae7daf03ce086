/- Lemmas. -/
import Derived.Test.YtknkhnahflmjiaaGreatDoorT1
namespace Go.Proofs.YtknkhnahflmjiaaGreatDoor
set_option maxRecDepth 100000
set_option maxHeartbeats 40000000
open Go.RowKit Go.Shelf
def oS (n:Nat):Value:=.int .u32 (n:Int)
abbrev SP:=@RowAt Nat oS
theorem Uc {α:Type} {enc:α→Value} {w:World} {B n c:Nat} {A:Option Addr} {l:List α} (h:RowAt enc w B (.slice A n c) l) (k:Nat) (hk:k≤l.length):RowAt enc w B (.slice A k c) (l.take k):=by
 obtain⟨A',c',e,h1,h2,h3⟩:=h;injection e with e1 e2 e3;subst e1 e3;have hl:(l.take k).length=k:=by rw[YA];omega
 refine⟨A,c,by rw[hl],by omega,h2,fun h0=>?_⟩;obtain⟨b,off,e4,h5,h6⟩:=h3 (by omega);refine⟨b,off,e4,h5,fun j u hu=>h6 j u ?_⟩;rw[List.map_take,List.getElem?_take] at hu;split at hu
 ·exact hu
 cases hu
def lenOf:Value→Nat
 | .slice _ n _=>n
 | _=>0
theorem sJ (A:Option Addr) (c B:Nat) (L:List Nat) (w:World) (hl:SP w B (.slice A L.length c) L) :
  Calls Tryz.prog 266 #[.slice A L.length c] w fun e w'=>e=.returned (.slice A (gg L) c)∧w=w':=by
 obtain⟨A',c',e,kG,eH,aL⟩:=hl.open_;injection e with e1 _ e2;subst e1 e2;unfold maxLen at eH;have HC:=zh aL;clear aL hl;go_enter Tryz.func266,Tryz.ntmps266;go_wp2_with fail;go_loopw [0] (fun x wr=>∃k:Nat,k≤L.length∧x=.slice A k c∧Y0 (gg L=jn L k)∧w=wr) (fun x _=>lenOf x)
 case atStart=>exact⟨L.length,yA _,rfl,rfl,rfl⟩
 obtain⟨k,hk,rfl,HV,rfl⟩:=hrel
 cases k with
 | zero=>
  go_wp2_with fail;go_ret;exact⟨by rw[HV.o];rfl,rfl⟩
 | succ m=>
  obtain⟨b,off,rfl,hb,dR⟩:=HC.o m (by omega);have h0:=dR m (by omega);unfold oS at h0;clear dR;by_cases hz:L[m]=0
  ·have cH:Y0 (gg L=jn L m):=by
    unfold Y0;rw[HV.o,jn,if_pos (by rw[cJ (by omega)];exact hz)]
   clear HV;go_wp2_with fail;go_roundw
   case rel=>exact⟨m,by omega,rfl,cH,by trivial⟩
   exact Nat.lt_succ_self m
  have cH:Y0 (gg L=m+1):=by
   unfold Y0;rw[HV.o,jn,if_neg (by rw[cJ (by omega)];exact hz)]
  clear HV;go_wp2_with fail;go_ret;exact⟨by rw[cH.o];rfl,rfl⟩
def TyW (w:World) (t:TypeId) (v:Value):Prop:=∀g,v.ownBlock=some g→∃cs r,w.heap[g]?=some (.cells cs t r)
theorem TyW.grow {w w':World} {t:TypeId} {v:Value} (h:TyW w t v) (hb:Below w.heap.size w w'):TyW w' t v:=fun g hg=>by
 obtain⟨cs,r,e⟩:=h g hg;exact⟨cs,r,(hb.block g (Array.getElem?_eq_some_iff.1 e).1).trans e⟩
theorem TyW.kept {w w':World} {t:TypeId} {v:Value} {row:Option Nat} (h:TyW w t v) (hg:w.grownBy w' row) (hr:∀g,row=some g→v.ownBlock≠some g):TyW w' t v:=fun g e=>by
 obtain⟨cs,r,e1⟩:=h g e;exact⟨cs,r,(hg.block g (Array.getElem?_eq_some_iff.1 e1).1 (fun e2=>hr g e2.symm e)).trans e1⟩
def WAt (w:World) (v:Value) (z:Nat):Prop:=(∃A c L,v=.slice A L.length c∧SP w w.heap.size v L∧Wok L∧AL L∧wv L=z)∧TyW w 232 v
theorem WAt.grow {w w':World} {v:Value} {z:Nat} (h:WAt w v z) (hb:Below w.heap.size w w'):WAt w' v z:=by
 obtain⟨⟨A,c,L,h1,h2,h3,h4,h5⟩,ht⟩:=h;exact⟨⟨A,c,L,h1,(h2.below hb (yA _)).mono hb.size,h3,h4,h5⟩,ht.grow hb⟩
theorem WAt.drewN {w:World} {v:Value} {z:Nat} (h:WAt w v z) (q:Nat):WAt (w.drewN q) v z:=h
theorem WAt.nil (w:World):WAt w (.slice none 0 0) 0:=⟨⟨none,0,[],rfl,⟨none,0,rfl,yA _,yI _,fun h=>absurd h (by simp)⟩,fun x hx=>(by cases hx),fun h=>absurd rfl h,rfl⟩,fun g e=>by cases e⟩
theorem rj (w:World) (a b:Nat):(w.drewN a).drewN b=w.drewN (a+b):=by unfold World.drewN;simp[Nat.add_assoc]
def Ke (a b:Nat) (w:World) (e:Ending) (w':World):Prop:=(∃q,w.drewN q=w')∧∃r:Int,e=.returned (.int .i64 r)∧decide (r<0)=decide (a<b)∧decide (0≤r)=decide (b≤a)
theorem S4 (v u:Value) (a b:Nat) (w:World) (hv:WAt w v a) (hu:WAt w u b):Calls Tryz.prog 270 #[v,u] w (Ke a b w):=by
 obtain⟨A,c,L,rfl,hl,Hz,Hy,rfl⟩:=hv.1;obtain⟨A',c',M,rfl,hm,hMo,hMt,rfl⟩:=hu.1;obtain⟨_,_,e,kG,eH,aL⟩:=hl.open_;injection e with e1 _ e2;subst e1 e2;obtain⟨_,_,e,qo,mA,nO⟩:=hm.open_;injection e with e1 _ e2;subst e1 e2;unfold maxLen at eH mA;have HC:=zh aL;have HD:=zh nO;have HLo:=zh Hz;have JY:=zh hMo;have HLt:=zh Hy;have HMt:=zh hMt;clear aL nO hl hm Hz Hy hMo hMt;by_cases fS:L.length=M.length
 ·have HE:=zh fS;have gj:((L.length:Int) != (M.length:Int))=false:=by rw[fS];simp
  have ak:(L.length != M.length)=false:=by rw[fS];simp
  have i0:(L.length:Int)≤(M.length:Int):=by omega
  have i1:(M.length:Int)≤(L.length:Int):=by omega
  clear fS;go_enter Tryz.func270,Tryz.ntmps270;go_wp2_with fail;go_loopw [5] (fun x wr=>∃k:Nat,k≤L.length∧x=.int .i64 ((k:Int)-1)∧Y0 (∀j,k≤j→j<L.length→aZ L j=aZ M j)∧∃q,w.drewN q=wr) (fun x _=>(intOf x+1).toNat)
  case atStart=>exact⟨L.length,yA _,rfl,fun j h1 h2=>by omega,0,rfl⟩
  obtain⟨k,hk,rfl,HV,q,rfl⟩:=hrel
  cases k with
  | zero=>
   have HEq:Y0 (wv L=wv M):=by
    unfold Y0 wv;rw[←HE.o];exact jN fun i hi=>HV.o i (yI _) hi
   go_wp2_with fail;go_ret;exact⟨⟨q,rfl⟩,0,rfl,by rw[HEq.o];simp,by rw[HEq.o];simp⟩
  | succ m=>
   rw[show (((m+1:Nat):Int)-1)=(m:Int) by omega];obtain⟨b,off,rfl,hb,dR⟩:=HC.o m (by omega);have h0:=dR m (by omega);obtain⟨b',vqw,rfl,pd,qkG⟩:=HD.o m (by have:=HE.o;omega);have h1:=qkG m (by have:=HE.o;omega);unfold oS at h0 h1;have k0:(0:Int)≤(m:Int):=yE _;have k1:(m:Int)<(L.length:Int):=by omega
   have k2:(m:Int)<(M.length:Int):=by have:=HE.o;omega
   have eL:aZ L m=L[m]:=cJ (by omega);have eM:aZ M m=M[m]'(by have:=HE.o;omega):=cJ (by have:=HE.o;omega);have EL:=zh eL;have EM:=zh eM;clear dR qkG hb pd eL eM;by_cases hq:aZ L m=aZ M m
   ·have hbn:((L[m]:Int) != (M[m]'(by have:=HE.o;omega):Int))=false:=by rw[←EL.o,←EM.o,hq];simp
    have vqM:(L[m] != (M[m]'(by have:=HE.o;omega)))=false:=by rw[←EL.o,←EM.o,hq];simp
    have cH:Y0 (∀j,m≤j→j<L.length→aZ L j=aZ M j):=fun j h1 h2=>by
     by_cases e:j=m
     ·rw[e];exact hq
     exact HV.o j (by omega) h2
    clear hq HV EL EM;go_wp2_with fail;go_quiet (fail);go_wp2_with fail;go_roundw
    case rel=>exact⟨m,by omega,rfl,cH,_,rfl⟩
    show ((m:Int)-1+1).toNat<((m:Int)+1).toNat;omega
   have hbn:((L[m]:Int) != (M[m]'(by have:=HE.o;omega):Int))=true:=by rw[←EL.o,←EM.o];simp;omega
   have vqM:(L[m] != (M[m]'(by have:=HE.o;omega)))=true:=by rw[←EL.o,←EM.o];simpa using hq
   have Yn:Y0 (∀j,m<j→j<L.length→aZ L j=aZ M j):=fun j h1 h2=>HV.o j (by omega) h2;by_cases aI:aZ L m<aZ M m
   ·have hd:decide (L[m]<(M[m]'(by have:=HE.o;omega)))=true:=by rw[←EL.o,←EM.o];exact yD aI
    have HR:Y0 (wv L<wv M):=by
     unfold Y0 wv;rw[←HE.o];exact u9 (ia HLo.o) L.length (by omega) Yn.o aI
    clear hq aI HV EL EM Yn;go_wp2_with fail;go_quiet (fail);go_wp2_with fail;go_quiet (fail);go_wp2_with fail;go_ret;exact⟨⟨_,(by rw[rj,rj])⟩,-1,rfl,by rw[yD HR.o];rfl,by rw[yC (Nat.not_le.2 HR.o)];rfl⟩
   have hd:decide (L[m]<(M[m]'(by have:=HE.o;omega)))=false:=by rw[←EL.o,←EM.o];exact yC aI
   have HR:Y0 (wv M<wv L):=by
    unfold Y0 wv;rw[←HE.o];exact u9 (ia JY.o) L.length (by omega) (fun j h1 h2=>(Yn.o j h1 h2).symm) (by omega)
   clear hq aI HV EL EM Yn;go_wp2_with fail;go_quiet (fail);go_wp2_with fail;go_quiet (fail);go_wp2_with fail;go_ret;exact⟨⟨_,(by rw[rj,rj])⟩,1,rfl,by rw[yC (Nat.not_lt.2 (YG HR.o))];rfl,by rw[yD (YG HR.o)];rfl⟩
 have gj:((L.length:Int) != (M.length:Int))=true:=by simp;omega
 have ak:(L.length != M.length)=true:=by simpa using fS
 have HR:Y0 (decide ((L.length:Int)-(M.length:Int)<0)=decide (wv L<wv M)∧decide (0≤(L.length:Int)-(M.length:Int))=decide (wv M≤wv L)):=by
  by_cases h:L.length<M.length
  ·have h1:=EH HLo.o HMt.o h;exact⟨by rw[yD h1];exact yD (by omega),by rw[yC (Nat.not_le.2 h1)];exact yC (by omega)⟩
  have h1:=EH JY.o HLt.o (show M.length<L.length by omega);exact⟨by rw[yC (show ¬wv L<wv M by omega)];exact yC (by omega),by rw[yD (YG h1)];exact yD (by omega)⟩
 clear fS;go_enter Tryz.func270,Tryz.ntmps270;go_wp2_with fail;go_ret;exact⟨⟨0,rfl⟩,_,rfl,HR.o.1,HR.o.2⟩
def OwnW (w:World) (g n:Nat) (L:List Nat):Prop:=w.ownsRow g 232 1 (.slice (some ⟨g,0,none⟩) n n) n (L.map oS)
section
variable {w w':World} {g n:Nat} {L:List Nat}
theorem OwnW.len (h:OwnW w g n L):L.length=n:=by have:=h.1;simp at this;omega
theorem OwnW.cell (h:OwnW w g n L) {i:Nat} (hi:i<n):w.cell? ⟨g,i,none⟩=some (.int .u32 (aZ L i:Nat)):=by
 have hl:=h.len;rw[World.ownsRow.cellAt h i (by omega),YC,yN (by omega),cJ (by omega)];rfl
theorem OwnW.frozen (h:OwnW w g n L) (i:Nat):w.frozen? ⟨g,i,none⟩=false:=World.ownsRow.frozenAt h i
theorem OwnW.set_ (h:OwnW w g n L) (i x:Nat):OwnW (w.setCell ⟨g,i,none⟩ (.int .u32 (x:Nat))) g n (L.set i x):=by
 unfold OwnW;rw[List.map_set];exact (World.ownsRow.stored h i _).1
theorem OwnW.drewN (h:OwnW w g n L) (q:Nat):OwnW (w.drewN q) g n L:=fR h q
theorem OwnW.lt (h:OwnW w g n L):g<w.heap.size:=(World.ownsRow.lt h g rfl).2
theorem OwnW.below (h:OwnW w g n L) (hb:Below w.heap.size w w'):OwnW w' g n L:=World.ownsRow.kept h (kH (row:=none) hb) (by simp[Value.ownBlock])
theorem OwnW.at_ (h:OwnW w g n L):SP w w.heap.size (.slice (some ⟨g,0,none⟩) L.length n) L:=by
 have:=h.len;subst this;exact RowAt.of_own h
end
theorem nG (n:Nat):(madeCells (Value.cells (.int .u32 0)) (n*1)).toList=(List.replicate n 0).map oS:=by
 apply List.ext_getElem
 ·simp[size_madeCells]
 intro i h1 h2;simp[madeCells,Value.cells,Nat.mod_one,oS]
theorem nI:(Tryz.prog.info? 232).map (fun i=>(i.zero,i.size,i.bytes))=some (some (.int .u32 0),1,4):=by kernel_rfl
theorem WAt.of_trim {w:World} {g n:Nat} {L:List Nat} (h:OwnW w g n L) (ho:Wok L) {k:Nat} (hk:k≤L.length) (ht:AL (L.take k)) {z:Nat} (hz:wv (L.take k)=z):WAt w (.slice (some ⟨g,0,none⟩) k n) z:=by
 have hl:(L.take k).length=k:=by rw[YA];omega
 refine⟨⟨some ⟨g,0,none⟩,n,L.take k,by rw[hl],?_,ho.take k,ht,hz⟩,fun g' e=>?_⟩
 case refine_2=>
  obtain rfl:g=g':=by simpa[Value.ownBlock] using e
  rcases h.2 with⟨h',_⟩|⟨g2,cap,cur,h',_,h3,_⟩
  ·cases h'
  injection h' with h4 _ _;injection h4 with h4;injection h4 with h4 _ _;subst h4;exact⟨_,_,h3⟩
 exact Uc h.at_ k hk
def qkZ (w:World) (v:Value):Prop:=∀g,v.ownBlock=some g→w.heap.size≤g
theorem tV {w:World} {g k n:Nat} (h:w.heap.size≤g):qkZ w (.slice (some ⟨g,0,none⟩) k n):=fun g' e=>by
 have e':g=g':=by simpa[Value.ownBlock] using e
 omega
def MakesW (z:Nat) (w:World) (e:Ending) (w':World):Prop:=Below w.heap.size w w'∧∃v,e=.returned v∧WAt w' v z∧qkZ w v
theorem WAt.kept {w w':World} {v:Value} {z:Nat} {row:Option Nat} (h:WAt w v z) (wR:w.grownBy w' row) (hg:∀g,row=some g→v.ownBlock≠some g):WAt w' v z:=by
 refine⟨?_,h.2.kept wR hg⟩;obtain⟨⟨A,c,L,rfl,⟨A',c',e,h2,h3,h4⟩,h5,h6,h7⟩,-⟩:=h;injection e with e1 _ e3;subst e1 e3;refine⟨A,c,L,rfl,⟨A,c,rfl,h2,h3,fun h0=>?_⟩,h5,h6,h7⟩;obtain⟨b,off,rfl,h8,h9⟩:=h4 h0;refine⟨b,off,rfl,yK h8 wR.size,fun j u hu=>?_⟩;rw[wR.cell_far ⟨b,off+j,none⟩ h8 (fun e=>hg b e.symm rfl)];exact h9 j u hu
theorem WAt.apart {w:World} {v:Value} {z g:Nat} {t:TypeId} {cs:Array Value} {r:Nat×Nat} (h:WAt w v z) (hg:w.heap[g]?=some (.cells cs t r)) (ht:t≠232):v.ownBlock≠some g:=fun e=>by
 obtain⟨cs',r',e1⟩:=h.2 g e;rw[hg] at e1;injection e1 with e1;injection e1 with _ e2 _;exact ht e2
theorem WAt.other {w:World} {v:Value} {z:Nat} (h:WAt w v z) (g i:Nat) (x:Value) (hg:v.ownBlock≠some g):WAt (w.setCell ⟨g,i,none⟩ x) v z:=by
 have wR:w.grownBy (w.setCell ⟨g,i,none⟩ x) (some g):=⟨rfl,rfl,rfl,by simp[World.setCell],fun k _ hk=>Below.heap_setCell w _ _ k (fun e=>hk (by rw[e]))⟩;exact h.kept wR (fun g' e=>by injection e with e;rw[←e];exact hg)
theorem JR (v u:Value) (a b K:Nat) (w:World) (hv:WAt w v a) (hu:WAt w u b) (hK:K≤1000000) (ha:a<4294967296^K) (hb:b<4294967296^K):Calls Tryz.prog 269 #[v,u] w (MakesW (a+b) w):=by
 obtain⟨A,c,L,rfl,hl,Hz,Hy,rfl⟩:=hv.1;obtain⟨A',c',M,rfl,hm,hMo,hMt,rfl⟩:=hu.1;have hl6:L.length≤1000000:=yH (jM Hy ha) hK;have hm6:M.length≤1000000:=yH (jM hMt hb) hK;obtain⟨_,_,e,kG,eH,aL⟩:=hl.open_;injection e with e1 _ e2;subst e1 e2;obtain⟨_,_,e,qo,mA,nO⟩:=hm.open_;injection e with e1 _ e2;subst e1 e2;unfold maxLen at eH mA;have HC:=zh aL;have HD:=zh nO;have HLo:=zh Hz;have JY:=zh hMo;obtain⟨i0,m9,kg,lP,mX⟩:=info_parts nI
 clear aL nO hl hm Hz Hy hMo hMt ha hb hK;by_cases aI:L.length<M.length
 case' pos=>
  have hd:decide (L.length<M.length)=true:=yD aI;go_enter Tryz.func269,Tryz.ntmps269;have cm:i0.bytes*(M.length+1)≤281474976710656:=by rw[mX];omega
  go_wp2_with (at_make;refine wpList_make_full _ rfl _ _ 219 rfl w.heap.size 232 i0 (.int .u32 0) 1 Tryz.underlying219 m9 kg lP .i64 .i64 _ _ (M.length+1) rfl rfl rfl rfl cm (by unfold maxLen;omega) (Nat.le_refl _) ?_;intro w4 bK bA);obtain⟨X,rfl⟩:∃X,X=M:=⟨_,rfl⟩;obtain⟨Y,rfl⟩:∃Y,Y=L:=⟨_,rfl⟩;have HX:=HD;have HY:=HC;have E5:=JY;have HYo:=HLo;have QR:Y.length≤X.length:=by omega
  have hx6:=hm6;have HS:Y0 (wv Y+wv X=wv X+wv Y):=Nat.add_comm _ _
 case' neg=>
  have hd:decide (L.length<M.length)=false:=yC aI;go_enter Tryz.func269,Tryz.ntmps269;have cm:i0.bytes*(L.length+1)≤281474976710656:=by rw[mX];omega
  go_wp2_with (at_make;refine wpList_make_full _ rfl _ _ 219 rfl w.heap.size 232 i0 (.int .u32 0) 1 Tryz.underlying219 m9 kg lP .i64 .i64 _ _ (L.length+1) rfl rfl rfl rfl cm (by unfold maxLen;omega) (Nat.le_refl _) ?_;intro w4 bK bA);obtain⟨X,rfl⟩:∃X,X=L:=⟨_,rfl⟩;obtain⟨Y,rfl⟩:∃Y,Y=M:=⟨_,rfl⟩;have HX:=HC;have HY:=HD;have E5:=HLo;have HYo:=JY;have QR:Y.length≤X.length:=by omega
  have hx6:=hl6;have HS:Y0 (wv X+wv Y=wv X+wv Y):=rfl
 all_goals
  rw[nG] at bK;have bP:=(yB w.heap.size w).grown bA (yA _) (fun k hk=>by cases hk);have rB:Y0 (OwnW w4 w.heap.size (X.length+1) (List.replicate (X.length+1) 0)):=bK;obtain⟨g,hg⟩:=zo (w.heap.size);have Ad:w.heap.size≤g:=Nat.le_of_eq hg;rw[hg] at rB;simp only[hg];clear bK bA m9 kg lP cm hg;go_loopw [6,21] (fun cx ix wr=>∃(k cy:Nat) (O:List Nat),k≤X.length+1∧ix=.int .i64 k∧cx=.int .u64 (cy:Nat)∧cy≤1∧Y0 (OwnW wr g (X.length+1) O)∧Y0 (Wok O)∧Y0 (aJ (aZ O) k+4294967296^k*cy=aJ (aZ X) k+aJ (aZ Y) k)∧Below w.heap.size w wr) (fun _ ix _=>X.length+1-(intOf ix).toNat)
  case atStart=>exact⟨0,0,_,yI _,rfl,rfl,yI _,rB,Wok.zeros _,rfl,bP⟩
  clear rB bP;obtain⟨k,cy,O,hk,rfl,rfl,hcy,HO,HW,gF,aG⟩:=hrel;have k0:(0:Int)≤(k:Int):=yE _;by_cases aK:k<X.length+1
  ·have z1:=HO.o.cell aK;have z2:=HO.o.frozen k;have k1:(k:Int)<(X.length:Int)+1:=by omega
   by_cases Ju:k<Y.length
   ·have tG:k<X.length:=by omega
    obtain⟨b1,o1,rfl,-,hx⟩:=HX.o k tG;obtain⟨b2,o2,rfl,-,hy⟩:=HY.o k Ju;have hx:=hx k tG;have hy:=hy k Ju;unfold oS at hx hy;have x0:X[k]<4294967296:=E5.o _ (yV tG);have y0:Y[k]<4294967296:=HYo.o _ (yV Ju);have hx:=fun w' (hb:Below w.heap.size w w')=>(hb.cell (p:=⟨b1,o1+k,none⟩) (World.block_lt_of_cell? _ _ hx)).trans hx;have hy:=fun w' (hb:Below w.heap.size w w')=>(hb.cell (p:=⟨b2,o2+k,none⟩) (World.block_lt_of_cell? _ _ hy)).trans hy
    have hx:=hx _ aG;have hy:=hy _ aG;have zi:Y0 (aZ X k=X[k]):=cJ tG;have oU:Y0 (aZ Y k=Y[k]):=cJ Ju;generalize X[k]=x at*;generalize Y[k]=y at*;have x1:(x:Int)<4294967296:=by omega
    have y1:(y:Int)<4294967296:=by omega
    have x2:(0:Int)≤(x:Int):=yE _;have y2:(0:Int)≤(y:Int):=yE _;have c2:(0:Int)≤(cy:Int):=yE _;have c3:(cy:Int)≤1:=by omega
    go_wp2_with fail;have oJ:Y0 (OwnW (wr.setCell ⟨g,k,none⟩ (.int .u32 (((cy+x+y)%4294967296:Nat):Int))) g (X.length+1) (O.set k ((cy+x+y)%4294967296))):=HO.o.set_ k _;have Bj:Y0 (Wok (O.set k ((cy+x+y)%4294967296))):=HW.o.set k (YJ _ (by decide));have dJ:Y0 (Below w.heap.size w (wr.setCell ⟨g,k,none⟩ (.int .u32 (((cy+x+y)%4294967296:Nat):Int)))):=aG.setCell (p:=⟨g,k,none⟩) Ad _;have eP:Y0 (aJ (aZ (O.set k ((cy+x+y)%4294967296))) (k+1)+4294967296^(k+1)*((cy+x+y)/4294967296)=aJ (aZ X) (k+1)+aJ (aZ Y) (k+1)):=AK (by rw[HO.o.len];omega) gF.o (by rw[zi.o,oU.o];omega)
    have Ro:(cy+x+y)/4294967296≤1:=by omega
    clear HO HW gF aG z1 z2;go_roundw
    case rel=>exact⟨k+1,(cy+x+y)/4294967296,_,by omega,by go_num,by go_num,Ro,oJ,Bj,eP,dJ⟩
    simp[intOf];omega
   by_cases tG:k<X.length
   ·obtain⟨b1,o1,rfl,-,hx⟩:=HX.o k tG;have hx:=hx k tG;unfold oS at hx;have x0:X[k]<4294967296:=E5.o _ (yV tG);have hx:=fun w' (hb:Below w.heap.size w w')=>(hb.cell (p:=⟨b1,o1+k,none⟩) (World.block_lt_of_cell? _ _ hx)).trans hx;have hx:=hx _ aG;have zi:Y0 (aZ X k=X[k]):=cJ tG;have oU:Y0 (aZ Y k=0):=fY (by omega);generalize X[k]=x at*;have x1:(x:Int)<4294967296:=by omega
    have x2:(0:Int)≤(x:Int):=yE _;have c2:(0:Int)≤(cy:Int):=yE _;have c3:(cy:Int)≤1:=by omega
    go_wp2_with fail;have oJ:Y0 (OwnW (wr.setCell ⟨g,k,none⟩ (.int .u32 (((cy+x)%4294967296:Nat):Int))) g (X.length+1) (O.set k ((cy+x)%4294967296))):=HO.o.set_ k _;have Bj:Y0 (Wok (O.set k ((cy+x)%4294967296))):=HW.o.set k (YJ _ (by decide));have dJ:Y0 (Below w.heap.size w (wr.setCell ⟨g,k,none⟩ (.int .u32 (((cy+x)%4294967296:Nat):Int)))):=aG.setCell (p:=⟨g,k,none⟩) Ad _;have eP:Y0 (aJ (aZ (O.set k ((cy+x)%4294967296))) (k+1)+4294967296^(k+1)*((cy+x)/4294967296)=aJ (aZ X) (k+1)+aJ (aZ Y) (k+1)):=AK (by rw[HO.o.len];omega) gF.o (by rw[zi.o,oU.o];omega)
    have Ro:(cy+x)/4294967296≤1:=by omega
    clear HO HW gF aG z1 z2;go_roundw
    case rel=>exact⟨k+1,(cy+x)/4294967296,_,by omega,by go_num,by go_num,Ro,oJ,Bj,eP,dJ⟩
    simp[intOf];omega
   obtain rfl:k=X.length:=by omega
   have zi:Y0 (aZ X X.length=0):=fY (yA _);have oU:Y0 (aZ Y X.length=0):=fY QR;have mA:decide (X.length<Y.length)=false:=yC Ju;have c2:(0:Int)≤(cy:Int):=yE _;have c3:(cy:Int)≤1:=by omega
   go_wp2_with fail;have oJ:Y0 (OwnW (wr.setCell ⟨g,X.length,none⟩ (.int .u32 (((cy)%4294967296:Nat):Int))) g (X.length+1) (O.set X.length ((cy)%4294967296))):=HO.o.set_ X.length _;have Bj:Y0 (Wok (O.set X.length ((cy)%4294967296))):=HW.o.set X.length (YJ _ (by decide));have dJ:Y0 (Below w.heap.size w (wr.setCell ⟨g,X.length,none⟩ (.int .u32 (((cy)%4294967296:Nat):Int)))):=aG.setCell (p:=⟨g,X.length,none⟩) Ad _
   have eP:Y0 (aJ (aZ (O.set X.length ((cy)%4294967296))) (X.length+1)+4294967296^(X.length+1)*((cy)/4294967296)=aJ (aZ X) (X.length+1)+aJ (aZ Y) (X.length+1)):=AK (by rw[HO.o.len];omega) gF.o (by rw[zi.o,oU.o];omega);have Ro:(cy)/4294967296≤1:=by omega
   rw[show cy%4294967296=cy from Nat.mod_eq_of_lt (by omega)] at oJ Bj dJ eP;clear HO HW gF aG z1 z2;go_roundw
   case rel=>exact⟨X.length+1,(cy)/4294967296,_,by omega,by go_num,by go_num,Ro,oJ,Bj,eP,dJ⟩
   simp[intOf]
  obtain rfl:k=X.length+1:=by omega
  have hT:=sJ (some ⟨g,0,none⟩) (X.length+1) wr.heap.size O wr HO.o.at_;rw[HO.o.len] at hT;have HZ:Y0 (wv O=wv X+wv Y):=V9 E5.o HYo.o HO.o.len QR gF.o;clear gF aK hk;go_wp2_with fail;refine hT.mono ?_;rintro e w' ⟨rfl,rfl⟩;obtain⟨hm,ht,hv⟩:=iO O;have HT:=zh ht;have HV:=zh hv;clear ht hv hT;go_wp2_with fail;go_ret;exact⟨aG,_,rfl,by
   first
    | exact WAt.of_trim HO.o HW.o hm HT.o (HV.o.trans HZ.o)
    | exact WAt.of_trim HO.o HW.o hm HT.o (HV.o.trans (HZ.o.trans (Nat.add_comm _ _))),tV Ad⟩
theorem wE (v u:Value) (a b K:Nat) (w:World) (hv:WAt w v a) (hu:WAt w u b) (hK:K≤1000000) (ha:a<4294967296^K) (iD:b≤a):Calls Tryz.prog 271 #[v,u] w (MakesW (a-b) w):=by
 obtain⟨A,c,X,rfl,hl,Mv,Rw,rfl⟩:=hv.1;obtain⟨A',c',Y,rfl,hm,hYo,hYt,rfl⟩:=hu.1;have hl6:X.length≤1000000:=yH (jM Rw ha) hK;have QR:Y.length≤X.length:=by
  rcases Nat.lt_or_ge X.length Y.length with h|h
  ·have:=EH Mv hYt h;omega
  exact h
 obtain⟨_,_,e,kG,eH,aL⟩:=hl.open_;injection e with e1 _ e2;subst e1 e2;obtain⟨_,_,e,qo,mA,nO⟩:=hm.open_;injection e with e1 _ e2;subst e1 e2;unfold maxLen at eH mA;have HX:=zh aL;have HY:=zh nO;have E5:=zh Mv;have HYo:=zh hYo;have qn:=zh iD;obtain⟨i0,m9,kg,lP,mX⟩:=info_parts nI;have cm:i0.bytes*X.length≤281474976710656:=by rw[mX];omega
 clear aL nO hl hm Mv Rw hYo hYt ha hK iD;go_enter Tryz.func271,Tryz.ntmps271;go_wp2_with (at_make;refine wpList_make_full _ rfl _ _ 219 rfl w.heap.size 232 i0 (.int .u32 0) 1 Tryz.underlying219 m9 kg lP .i64 .i64 _ _ X.length rfl rfl rfl rfl cm (by unfold maxLen;omega) (Nat.le_refl _) ?_;intro w4 bK bA);rw[nG] at bK;have bP:=(yB w.heap.size w).grown bA (yA _) (fun k hk=>by cases hk);have rB:Y0 (OwnW w4 w.heap.size X.length (List.replicate X.length 0)):=bK
 obtain⟨g,hg⟩:=zo (w.heap.size);have Ad:w.heap.size≤g:=Nat.le_of_eq hg;rw[hg] at rB;simp only[hg];clear bK bA m9 kg lP cm hg;go_loopw [6,14] (fun cx ix wr=>∃(k cy:Nat) (O:List Nat),k≤X.length∧ix=.int .i64 k∧cx=.int .i64 (cy:Nat)∧cy≤1∧Y0 (OwnW wr g X.length O)∧Y0 (Wok O)∧Y0 (aJ (aZ O) k+aJ (aZ Y) k=aJ (aZ X) k+4294967296^k*cy)∧Below w.heap.size w wr) (fun _ ix _=>X.length-(intOf ix).toNat)
 case atStart=>exact⟨0,0,_,yI _,rfl,rfl,yI _,rB,Wok.zeros _,rfl,bP⟩
 clear rB bP;obtain⟨k,cy,O,hk,rfl,rfl,hcy,HO,HW,gF,aG⟩:=hrel;have k0:(0:Int)≤(k:Int):=yE _;by_cases tG:k<X.length
 ·have z1:=HO.o.cell tG;have z2:=HO.o.frozen k;have k1:(k:Int)<(X.length:Int):=by omega
  obtain⟨b1,o1,rfl,-,hx⟩:=HX.o k tG;have hx:=hx k tG;unfold oS at hx;have x0:X[k]<4294967296:=E5.o _ (yV tG);have hx:=fun w' (hb:Below w.heap.size w w')=>(hb.cell (p:=⟨b1,o1+k,none⟩) (World.block_lt_of_cell? _ _ hx)).trans hx;have hx:=hx _ aG;have zi:Y0 (aZ X k=X[k]):=cJ tG;generalize X[k]=x at*;have x1:(x:Int)<4294967296:=by omega
  have x2:(0:Int)≤(x:Int):=yE _;have c2:(0:Int)≤(cy:Int):=yE _;have c3:(cy:Int)≤1:=by omega
  by_cases Ju:k<Y.length
  ·obtain⟨b2,o2,rfl,-,hy⟩:=HY.o k Ju;have hy:=hy k Ju;unfold oS at hy;have y0:Y[k]<4294967296:=HYo.o _ (yV Ju);have hy:=fun w' (hb:Below w.heap.size w w')=>(hb.cell (p:=⟨b2,o2+k,none⟩) (World.block_lt_of_cell? _ _ hy)).trans hy;have hy:=hy _ aG;have oU:Y0 (aZ Y k=Y[k]):=cJ Ju;generalize Y[k]=y at*;have y1:(y:Int)<4294967296:=by omega
   have y2:(0:Int)≤(y:Int):=yE _;by_cases hs:x<cy+y
   ·have hd:decide ((x:Int)-cy-y<0)=true:=yD (by omega);go_wp2_with fail;obtain⟨d,Rn⟩:∃d:Nat,(x:Int)-cy-y+4294967296=(d:Int):=⟨((x:Int)-cy-y+4294967296).toNat,by omega⟩;rw[Rn];have oJ:Y0 (OwnW (wr.setCell ⟨g,k,none⟩ (.int .u32 (d:Int))) g X.length (O.set k d)):=HO.o.set_ k _;have Bj:Y0 (Wok (O.set k d)):=HW.o.set k (by omega);have dJ:Y0 (Below w.heap.size w (wr.setCell ⟨g,k,none⟩ (.int .u32 (d:Int)))):=aG.setCell (p:=⟨g,k,none⟩) Ad _
    have eP:Y0 (aJ (aZ (O.set k d)) (k+1)+aJ (aZ Y) (k+1)=aJ (aZ X) (k+1)+4294967296^(k+1)*1):=tT (by rw[HO.o.len];omega) gF.o (by rw[zi.o,oU.o];omega);clear HO HW gF aG z1 z2 Rn;go_roundw
    case rel=>exact⟨k+1,1,_,by omega,by go_num,rfl,by omega,oJ,Bj,eP,dJ⟩
    simp[intOf];omega
   have hd:decide ((x:Int)-cy-y<0)=false:=yC (by omega);go_wp2_with fail;obtain⟨d,Rn⟩:∃d:Nat,(x:Int)-cy-y=(d:Int):=⟨((x:Int)-cy-y).toNat,by omega⟩;rw[Rn];have oJ:Y0 (OwnW (wr.setCell ⟨g,k,none⟩ (.int .u32 (d:Int))) g X.length (O.set k d)):=HO.o.set_ k _;have Bj:Y0 (Wok (O.set k d)):=HW.o.set k (by omega);have dJ:Y0 (Below w.heap.size w (wr.setCell ⟨g,k,none⟩ (.int .u32 (d:Int)))):=aG.setCell (p:=⟨g,k,none⟩) Ad _
   have eP:Y0 (aJ (aZ (O.set k d)) (k+1)+aJ (aZ Y) (k+1)=aJ (aZ X) (k+1)+4294967296^(k+1)*0):=tT (by rw[HO.o.len];omega) gF.o (by rw[zi.o,oU.o];omega);clear HO HW gF aG z1 z2 Rn;go_roundw
   case rel=>exact⟨k+1,0,_,by omega,by go_num,rfl,by omega,oJ,Bj,eP,dJ⟩
   simp[intOf];omega
  have oU:Y0 (aZ Y k=0):=fY (by omega);by_cases hs:x<cy
  ·have hd:decide ((x:Int)-cy<0)=true:=yD (by omega);go_wp2_with fail;obtain⟨d,Rn⟩:∃d:Nat,(x:Int)-cy+4294967296=(d:Int):=⟨((x:Int)-cy+4294967296).toNat,by omega⟩;rw[Rn];have oJ:Y0 (OwnW (wr.setCell ⟨g,k,none⟩ (.int .u32 (d:Int))) g X.length (O.set k d)):=HO.o.set_ k _;have Bj:Y0 (Wok (O.set k d)):=HW.o.set k (by omega);have dJ:Y0 (Below w.heap.size w (wr.setCell ⟨g,k,none⟩ (.int .u32 (d:Int)))):=aG.setCell (p:=⟨g,k,none⟩) Ad _
   have eP:Y0 (aJ (aZ (O.set k d)) (k+1)+aJ (aZ Y) (k+1)=aJ (aZ X) (k+1)+4294967296^(k+1)*1):=tT (by rw[HO.o.len];omega) gF.o (by rw[zi.o,oU.o];omega);clear HO HW gF aG z1 z2 Rn;go_roundw
   case rel=>exact⟨k+1,1,_,by omega,by go_num,rfl,by omega,oJ,Bj,eP,dJ⟩
   simp[intOf];omega
  have hd:decide ((x:Int)-cy<0)=false:=yC (by omega);go_wp2_with fail;obtain⟨d,Rn⟩:∃d:Nat,(x:Int)-cy=(d:Int):=⟨((x:Int)-cy).toNat,by omega⟩;rw[Rn];have oJ:Y0 (OwnW (wr.setCell ⟨g,k,none⟩ (.int .u32 (d:Int))) g X.length (O.set k d)):=HO.o.set_ k _;have Bj:Y0 (Wok (O.set k d)):=HW.o.set k (by omega);have dJ:Y0 (Below w.heap.size w (wr.setCell ⟨g,k,none⟩ (.int .u32 (d:Int)))):=aG.setCell (p:=⟨g,k,none⟩) Ad _
  have eP:Y0 (aJ (aZ (O.set k d)) (k+1)+aJ (aZ Y) (k+1)=aJ (aZ X) (k+1)+4294967296^(k+1)*0):=tT (by rw[HO.o.len];omega) gF.o (by rw[zi.o,oU.o];omega);clear HO HW gF aG z1 z2 Rn;go_roundw
  case rel=>exact⟨k+1,0,_,by omega,by go_num,rfl,by omega,oJ,Bj,eP,dJ⟩
  simp[intOf];omega
 obtain rfl:k=X.length:=by omega
 have hT:=sJ (some ⟨g,0,none⟩) X.length wr.heap.size O wr HO.o.at_;rw[HO.o.len] at hT;have HZ:Y0 (wv O=wv X-wv Y):=TY HW.o HO.o.len QR qn.o gF.o;clear gF hk;go_wp2_with fail;refine hT.mono ?_;rintro e w' ⟨rfl,rfl⟩;obtain⟨hm,ht,hv⟩:=iO O;have HT:=zh ht;have HV:=zh hv;clear ht hv hT;go_wp2_with fail;go_ret;exact⟨aG,_,rfl,WAt.of_trim HO.o HW.o hm HT.o (HV.o.trans HZ.o),tV Ad⟩
theorem AF (v:Value) (a K:Nat) (w:World) (hv:WAt w v a) (hK:K≤1000000) (ha:a<4294967296^K):Calls Tryz.prog 284 #[v] w (MakesW (a/2) w):=by
 obtain⟨A,c,X,rfl,hl,Mv,Rw,rfl⟩:=hv.1;have hl6:X.length≤1000000:=yH (jM Rw ha) hK;obtain⟨_,_,e,kG,eH,aL⟩:=hl.open_;injection e with e1 _ e2;subst e1 e2;unfold maxLen at eH;have HX:=zh aL;have E5:=zh Mv;obtain⟨i0,m9,kg,lP,mX⟩:=info_parts nI;have cm:i0.bytes*X.length≤281474976710656:=by rw[mX];omega
 clear aL hl Mv Rw ha hK;go_enter Tryz.func284,Tryz.ntmps284;go_wp2_with (at_make;refine wpList_make_full _ rfl _ _ 219 rfl w.heap.size 232 i0 (.int .u32 0) 1 Tryz.underlying219 m9 kg lP .i64 .i64 _ _ X.length rfl rfl rfl rfl cm (by unfold maxLen;omega) (Nat.le_refl _) ?_;intro w4 bK bA);rw[nG] at bK;have bP:=(yB w.heap.size w).grown bA (yA _) (fun k hk=>by cases hk);have rB:Y0 (OwnW w4 w.heap.size X.length (List.replicate X.length 0)):=bK
 have H00:Y0 (2*aJ (aZ (List.replicate X.length 0)) 0+aZ X 0%2=aJ (aZ X) 0+4294967296^0*(aZ X 0%2)):=by
  unfold Y0;rw[Nat.pow_zero,Nat.one_mul];rfl
 obtain⟨g,hg⟩:=zo (w.heap.size);have Ad:w.heap.size≤g:=Nat.le_of_eq hg;rw[hg] at rB;simp only[hg];clear bK bA m9 kg lP cm hg;go_loopw [10] (fun ix wr=>∃(k:Nat) (O:List Nat),k≤X.length∧ix=.int .i64 k∧Y0 (OwnW wr g X.length O)∧Y0 (Wok O)∧Y0 (2*aJ (aZ O) k+aZ X 0%2=aJ (aZ X) k+4294967296^k*(aZ X k%2))∧Below w.heap.size w wr) (fun ix _=>X.length-(intOf ix).toNat)
 case atStart=>exact⟨0,_,yI _,rfl,rB,Wok.zeros _,H00,bP⟩
 clear rB bP H00;obtain⟨k,O,hk,rfl,HO,HW,gF,aG⟩:=hrel;have k0:(0:Int)≤(k:Int):=yE _;by_cases tG:k<X.length
 ·have z1:=HO.o.cell tG;have z2:=HO.o.frozen k;have k1:(k:Int)<(X.length:Int):=by omega
  obtain⟨b1,o1,rfl,ak,La⟩:=HX.o k tG;have hx:=La k tG;unfold oS at hx;have x0:X[k]<4294967296:=E5.o _ (yV tG);have hx:=fun w' (hb:Below w.heap.size w w')=>(hb.cell (p:=⟨b1,o1+k,none⟩) ak).trans hx;have hx:=hx _ aG;have zi:Y0 (aZ X k=X[k]):=cJ tG;generalize X[k]=x at*;have x1:(x:Int)<4294967296:=by omega
  have x2:(0:Int)≤(x:Int):=yE _;by_cases Ju:k+1<X.length
  ·have hy:=La (k+1) Ju;unfold oS at hy;have y0:X[k+1]<4294967296:=E5.o _ (yV Ju);have hy:=fun w' (hb:Below w.heap.size w w')=>(hb.cell (p:=⟨b1,o1+(k+1),none⟩) ak).trans hy;have oU:Y0 (aZ X (k+1)=X[k+1]):=cJ Ju;generalize X[k+1]=y at*;have y1:(y:Int)<4294967296:=by omega
   have y2:(0:Int)≤(y:Int):=yE _;have hd:decide ((k:Int)+1<X.length)=true:=yD (by omega);have k2:(k:Int)+1<(X.length:Int):=by omega
   have HyH:=zh hy;clear La hy;go_wp2_with fail;have oJ:Y0 (OwnW (wr.setCell ⟨g,k,none⟩ (.int .u32 ((x:Int)/2))) g X.length (O.set k (x/2))):=HO.o.set_ k (x/2);have bf:Below w.heap.size w (wr.setCell ⟨g,k,none⟩ (.int .u32 ((x:Int)/2))):=aG.setCell (p:=⟨g,k,none⟩) Ad _;have y5:=HyH.o _ bf;have z3:=oJ.o.cell tG;rw[iX (by rw[HO.o.len];exact tG),if_pos rfl] at z3;have z4:=oJ.o.frozen k;clear z1 z2 hx aG
   generalize wr.setCell ⟨g,k,none⟩ (.int .u32 ((x:Int)/2))=w5 at*;refine hU 12 (by kernel_rfl) (by kernel_rfl) ?_;simp only[aO,aR,aP,aQ]
   repeat (go_big_quiet_step (fail))
   refine YE ?_;go_wp2_with fail;rw[US x y x0];have M5:Y0 (OwnW ((w5.setCell ⟨g,k,none⟩ (.int .u32 ((x/2+2147483648*(y%2):Nat):Int))).drew) g X.length (O.set k (aZ X k/2+2147483648*(aZ X (k+1)%2)))):=by
    rw[zi.o,oU.o]
    have:=oJ.o.set_ k (x/2+2147483648*(y%2));rw[List.set_set] at this;exact this.drewN 1
   have Bj:Y0 (Wok (O.set k (aZ X k/2+2147483648*(aZ X (k+1)%2)))):=HW.o.set k (by rw[zi.o,oU.o];omega);have dJ:Y0 (Below w.heap.size w ((w5.setCell ⟨g,k,none⟩ (.int .u32 ((x/2+2147483648*(y%2):Nat):Int))).drew)):=(bf.setCell (p:=⟨g,k,none⟩) Ad _).drew;have eP:=zh (Dc (by rw[HO.o.len];exact tG) gF.o);clear HO oJ HW gF bf z3 z4;go_roundw
   case rel=>exact⟨k+1,_,by omega,by go_num,M5,Bj,eP,dJ.o⟩
   simp[intOf];omega
  have oU:Y0 (aZ X (k+1)=0):=fY (by omega);have hd:decide ((k:Int)+1<X.length)=false:=yC (by omega);clear La;go_wp2_with fail;have oJ:Y0 (OwnW (wr.setCell ⟨g,k,none⟩ (.int .u32 ((x:Int)/2))) g X.length (O.set k (aZ X k/2+2147483648*(aZ X (k+1)%2)))):=by
   rw[zi.o,oU.o];exact HO.o.set_ k (x/2)
  have Bj:Y0 (Wok (O.set k (aZ X k/2+2147483648*(aZ X (k+1)%2)))):=HW.o.set k (by rw[zi.o,oU.o];omega);have dJ:Y0 (Below w.heap.size w (wr.setCell ⟨g,k,none⟩ (.int .u32 ((x:Int)/2)))):=aG.setCell (p:=⟨g,k,none⟩) Ad _;have eP:=zh (Dc (by rw[HO.o.len];exact tG) gF.o);clear HO HW gF aG z1 z2;go_roundw
  case rel=>exact⟨k+1,_,by omega,by go_num,oJ,Bj,eP,dJ.o⟩
  simp[intOf];omega
 obtain rfl:k=X.length:=by omega
 have hT:=sJ (some ⟨g,0,none⟩) X.length wr.heap.size O wr HO.o.at_;rw[HO.o.len] at hT;have HZ:Y0 (wv O=wv X/2):=Ru HO.o.len gF.o;clear gF hk;go_wp2_with fail;refine hT.mono ?_;rintro e w' ⟨rfl,rfl⟩;obtain⟨hm,ht,hv⟩:=iO O;have HT:=zh ht;have HV:=zh hv;clear ht hv hT;go_wp2_with fail;go_ret;exact⟨aG,_,rfl,WAt.of_trim HO.o HW.o hm HT.o (HV.o.trans HZ.o),tV Ad⟩
theorem B5 (n:Int):bits .and .u32 n 1=n%2:=by
 have h1:(BitVec.ofInt 32 1).toNat=2^1-1:=by decide
 have key:(BitVec.ofInt 32 n &&& BitVec.ofInt 32 1).toNat=(n%((2^32:Nat):Int)).toNat%2^1:=by
  rw[BitVec.toNat_and,BitVec.toNat_ofInt,h1,Nat.and_two_pow_sub_one_eq_mod]
 show IntKind.u32.wrap ((BitVec.ofInt 32 n &&& BitVec.ofInt 32 1).toNat:Nat)=n%2;rw[key,x8];omega
theorem IC (x t:Nat):(bits .and .u32 ((x:Int)/2^t) 1==1)=decide (x/2^t%2=1):=by
 have h1:((x:Int)/2^t)%2=((x/2^t%2:Nat):Int):=by
  rw[Int.natCast_emod,Int.natCast_ediv,Int.natCast_pow];rfl
 rw[B5,h1,Bool.eq_iff_iff,beq_iff_eq,decide_eq_true_eq];omega
theorem qxZ {o t:Nat} (ho:o<4294967296) (ht:t<32):bits .or .u32 (o:Int) ((2:Int)^t%4294967296)=((o ||| 2^t:Nat):Int):=by
 have h2:(2:Nat)^t<2^32:=Nat.pow_lt_pow_right (by decide) ht;have e:((2:Int)^t%4294967296)=((2^t:Nat):Int):=by
  have e1:((2:Int)^t)=((2^t:Nat):Int):=by rw[Int.natCast_pow];rfl
  rw[e1];have h3:(2:Nat)^32=4294967296:=rfl;rw[h3] at h2;generalize (2:Nat)^t=n at*;omega
 rw[e,tn _ _ ho h2]
theorem WAt.one (w:World):WAt (w.alloc (.cells #[.int .u32 1] 232)) (.slice (some ⟨w.heap.size,0,none⟩) 1 1) 1:=by
 refine⟨⟨some ⟨w.heap.size,0,none⟩,1,[1],rfl,⟨some ⟨w.heap.size,0,none⟩,1,rfl,yA _,by unfold maxLen;omega,fun _=>⟨w.heap.size,0,rfl,by simp,fun j u hu=>?_⟩⟩,fun x hx=>?_,fun _=>?_,rfl⟩,fun g e=>?_⟩
 ·rw[yS,(Blk.new w 232 #[.int .u32 1]).cell];simpa[oS] using hu
 ·rw[List.mem_singleton.1 hx];decide
 ·show aZ [1] 0≠0;decide
 obtain rfl:w.heap.size=g:=by simpa[Value.ownBlock] using e
 exact⟨_,_,Blk.new w 232 #[.int .u32 1]⟩
theorem XL (v u:Value) (a b K:Nat) (w:World) (hv:WAt w v a) (hu:WAt w u b) (hK:K≤500000) (ha:a<4294967296^K) (hb:b<4294967296^K) (gj:0<b):Calls Tryz.prog 268 #[v,u] w (MakesW (a/b) w):=by
 have HU:=zh hu;obtain⟨A,c,X,rfl,hl,Mv,Rw,rfl⟩:=hv.1;obtain⟨A',c',Y,rfl,hm,hYo,hYt,rfl⟩:=hu.1;have hl6:X.length≤500000:=yH (jM Rw ha) hK;obtain⟨_,_,e,kG,eH,aL⟩:=hl.open_;injection e with e1 _ e2;subst e1 e2;unfold maxLen at eH;have HX:=zh aL;have E5:=zh Mv;have I2:Y0 (K+1≤1000000):=by unfold Y0;omega
 have HB:Y0 (wv Y<4294967296^K):=hb;have TM:=zh gj;obtain⟨i0,m9,kg,lP,mX⟩:=info_parts nI;have cm:i0.bytes*X.length≤281474976710656:=by rw[mX];omega
 clear aL hl hm Mv Rw hYo hYt ha hK hb gj;go_enter Tryz.func268,Tryz.ntmps268;go_wp2_with (at_make;refine wpList_make_full _ rfl _ _ 219 rfl w.heap.size 232 i0 (.int .u32 0) 1 Tryz.underlying219 m9 kg lP .i64 .i64 _ _ X.length rfl rfl rfl rfl cm (by unfold maxLen;omega) (Nat.le_refl _) ?_;intro w4 bK bA);rw[nG] at bK;have bP:=(yB w.heap.size w).grown bA (yA _) (fun k hk=>by cases hk);have rB:Y0 (OwnW w4 w.heap.size X.length (List.replicate X.length 0)):=bK
 have ow:Y0 (DivSt (wv X) (wv Y) (32*X.length) (List.replicate X.length 0) 0):=DivSt.start (MD E5.o) _;obtain⟨g,hg⟩:=zo (w.heap.size);have Ad:w.heap.size≤g:=Nat.le_of_eq hg;rw[hg] at rB;simp only[hg];clear bK bA m9 kg lP cm hg;go_loopw [6,7] (fun rx ix wr=>∃(I r:Nat) (O:List Nat),I≤32*X.length∧ix=.int .i64 ((I:Int)-1)∧Y0 (OwnW wr g X.length O)∧Y0 (Wok O)∧Y0 (DivSt (wv X) (wv Y) I O r)∧Y0 (WAt wr rx r)∧Below w.heap.size w wr) (fun _ ix _=>(intOf ix+1).toNat)
 case atStart=>exact⟨32*X.length,0,_,yA _,by go_num,rB,Wok.zeros _,ow,WAt.nil _,bP⟩
 clear rB bP ow;obtain⟨I,r,O,hI,rfl,HO,HW,HD,HR,aG⟩:=hrel
 cases I with
 | zero=>
  have hT:=sJ (some ⟨g,0,none⟩) X.length _ O _ HO.o.at_;rw[HO.o.len] at hT;have HZ:Y0 (wv O=wv X/wv Y):=HD.o.done HO.o.len (MD E5.o);go_wp2_with fail;refine hT.mono ?_;rintro e w' ⟨rfl,rfl⟩;obtain⟨hm,ht,hv⟩:=iO O;have HT:=zh ht;have HV:=zh hv;clear ht hv hT;go_wp2_with fail;go_ret;exact⟨aG,_,rfl,WAt.of_trim HO.o HW.o hm HT.o (HV.o.trans HZ.o),tV Ad⟩
 | succ i=>
  rw[show (((i+1:Nat):Int)-1)=(i:Int) by omega];have hj:i/32<X.length:=by omega
  have i0:(0:Int)≤(i:Int):=yE _;have i1:(i:Int)/32<(X.length:Int):=by omega
  have i2:((i:Int)/32).toNat=i/32:=by omega
  have i3:((i:Int)%32).toNat=i%32:=by omega
  obtain⟨b1,o1,rfl,ak,La⟩:=HX.o (i/32) hj;have hx:=La (i/32) hj;unfold oS at hx;have zi:Y0 (aZ X (i/32)=X[i/32]):=cJ hj;have vqo:=zh (S8 E5.o hj);have x0:X[i/32]<4294967296:=E5.o _ (yV hj);have I0:Y0 (r<4294967296^(K+1)):=by
   unfold Y0;have h1:=HD.o.lt TM.o;have h2:=HB.o;rw[yW];omega
  clear La;generalize X[i/32]=x at*;go_wp2_with fail;refine (JR _ _ r r (K+1) _ HR.o HR.o I2.o I0.o I0.o).mono ?_;rintro e w5 ⟨bf,rv,rfl,hR5,-⟩;have hx:=(aG.cell (p:=⟨b1,o1+i/32,none⟩) ak).trans hx;have hx:=(bf.cell (p:=⟨b1,o1+i/32,none⟩) (yK ak aG.size)).trans hx;have Db:=aG.trans (bf.mono aG.size);have oJ:=zh (HO.o.below bf);have ou:=zh hR5;clear HR HO aG bf hR5;have HN:Y0 (r<4294967296^K):=Nat.lt_trans (HD.o.lt TM.o) HB.o
  rcases Nat.mod_two_eq_zero_or_one (wv X/2^i) with Rp|Rp
  case' inl=>
   have hq:(bits .and .u32 ((x:Int)/2^(i%32)) 1==1)=false:=by rw[IC,←zi.o,vqo.o,Rp];rfl
   have HS:Y0 (r+r=2*r+wv X/2^i%2):=by unfold Y0;omega
   clear Rp;go_wp2_with fail;obtain⟨s,hs⟩:∃s,s=r+r:=⟨_,rfl⟩;rw[←hs] at ou HS;have HSr:Y0 (s≤2*r+1):=by unfold Y0;omega
   clear hs;have vQ:=Db;have M5:=oJ;have ot:=ou;clear Db oJ ou hx;obtain⟨w6,rfl⟩:∃w6,w6=w5:=⟨_,rfl⟩
  case' inr=>
   have hq:(bits .and .u32 ((x:Int)/2^(i%32)) 1==1)=true:=by rw[IC,←zi.o,vqo.o,Rp];rfl
   have HS:Y0 (r+r+1=2*r+wv X/2^i%2):=by unfold Y0;omega
   clear Rp;go_wp2_with fail;refine (JR _ _ (r+r) 1 (K+1) _ (ou.o.grow ((yB _ _).alloc (yA _) _)) (WAt.one _) I2.o (by have:=HN.o;rw[yW];omega) (Nat.one_lt_pow (by omega) (by decide))).mono ?_;rintro e w6 ⟨fk,rv,rfl,hR6,-⟩;have fk:=((yB _ w5).alloc (yA _) _).trans (fk.mono (by simp));have vQ:=Db.trans (fk.mono Db.size);have M5:=zh (oJ.o.below fk);have ot:=zh hR6;clear oJ Db fk hR6 ou hx;obtain⟨s,hs⟩:∃s,s=r+r+1:=⟨_,rfl⟩
   rw[←hs] at ot HS;have HSr:Y0 (s≤2*r+1):=by unfold Y0;omega
   clear hs;go_wp2_with fail
  all_goals
   have HU6:=zh (HU.o.grow vQ);refine (S4 _ _ s (wv Y) _ ot.o HU6.o).mono ?_;rintro e w7 ⟨⟨q7,rfl⟩,c7,rfl,-,J0⟩;by_cases X4:wv Y≤s
   ·have hd:decide (0≤c7)=true:=by rw[J0];exact yD X4
    clear J0;have HG:=zh X4;clear X4;go_wp2_with fail;refine (wE _ _ s (wv Y) (K+1) _ (ot.o.drewN q7) (HU6.o.drewN q7) I2.o (by have:=HN.o;have:=HSr.o;rw[yW];omega) HG.o).mono ?_;rintro e w8 ⟨aT,rv8,rfl,yc,hN8⟩;have aT:Below w6.heap.size w6 w8:=(Zf (yB _ _) q7).trans aT;have X8:=vQ.trans (aT.mono vQ.size);have Tc:=zh (M5.o.below aT);have pj:=zh yc;have HgN:Y0 (rv8.ownBlock≠some g):=fun e=>by
     have h1:=hN8 g e;have h2:=M5.o.lt;have h3:(w6.drewN q7).heap.size=w6.heap.size:=rfl;omega
    have hj2:i/32<O.length:=by rw[Tc.o.len];exact hj
    have bp:=zh (HD.o.yes TM.o hj2 HS.o HG.o);have z1:=Tc.o.cell hj;have z2:=Tc.o.frozen (i/32);have vwA:Y0 (bits .or .u32 ((aZ O (i/32):Nat):Int) ((2:Int)^(i%32)%4294967296)=((aZ O (i/32) ||| 2^(i%32):Nat):Int)):=qxZ (ia HW.o _) (YJ _ (by decide));have HOr:Y0 (aZ O (i/32) ||| 2^(i%32)<4294967296):=Nat.or_lt_two_pow (n:=32) (ia HW.o _) (Nat.pow_lt_pow_right (by decide) (YJ _ (by decide)));clear M5 ot aT yc hN8 vQ HU6 HD
    go_wp2_with fail;refine hU 10 (by kernel_rfl) (by kernel_rfl) ?_;simp only[aO,aR,aP,aQ]
    repeat (go_big_quiet_step (fail))
    refine YE ?_;go_wp2_with fail;rw[vwA.o];have HO9:Y0 (OwnW ((w8.setCell ⟨g,i/32,none⟩ (.int .u32 ((aZ O (i/32) ||| 2^(i%32):Nat):Int))).drew) g X.length (O.set (i/32) (aZ O (i/32) ||| 2^(i%32)))):=(Tc.o.set_ (i/32) _).drewN 1;have HW9:Y0 (Wok (O.set (i/32) (aZ O (i/32) ||| 2^(i%32)))):=HW.o.set _ HOr.o;have tM:Y0 (WAt ((w8.setCell ⟨g,i/32,none⟩ (.int .u32 ((aZ O (i/32) ||| 2^(i%32):Nat):Int))).drew) rv8 (s-wv Y)):=(pj.o.other g (i/32) _ HgN.o).drewN 1
    have iW:Y0 (Below w.heap.size w ((w8.setCell ⟨g,i/32,none⟩ (.int .u32 ((aZ O (i/32) ||| 2^(i%32):Nat):Int))).drew)):=(X8.setCell (p:=⟨g,i/32,none⟩) Ad _).drew;clear Tc pj X8 z1 z2 HW;go_roundw
    case rel=>exact⟨i,s-wv Y,_,by omega,by go_num,HO9,HW9,bp,tM,iW.o⟩
    simp[intOf]
   have hd:decide (0≤c7)=false:=by rw[J0];exact yC X4
   clear J0;have bp:=zh (HD.o.no TM.o HS.o (Nat.not_le.1 X4));have Tc:=zh (M5.o.drewN q7);have pj:=zh (ot.o.drewN q7);have eG:=zh (Zf vQ q7);clear X4 M5 ot vQ HU6 HD;go_wp2_with fail;go_roundw
   case rel=>exact⟨i,s,O,by omega,by go_num,Tc,HW,bp,pj,eG.o⟩
   simp[intOf]
def qj5 (z:Nat) (w:World) (e:Ending) (w':World):Prop:=Below w.heap.size w w'∧∃v,e=.returned v∧WAt w' v z
theorem WAt.first {w:World} {v:Value} {z:Nat} (h:WAt w v z) (hz:0<z):∃(b off n c x:Nat),v=.slice (some ⟨b,off,none⟩) n c∧0<n∧n≤9223372036854775807∧w.cell? ⟨b,off,none⟩=some (.int .u32 (x:Int))∧x<4294967296∧x%2=z%2:=by
 obtain⟨A,c,L,rfl,hl,Hz,Hy,rfl⟩:=h.1;obtain⟨_,_,e,kG,eH,aL⟩:=hl.open_;injection e with e1 _ e2;subst e1 e2;have hp:0<L.length:=by
  rcases Nat.eq_zero_or_pos L.length with h|h
  ·rw[List.length_eq_zero_iff.1 h] at hz;exact absurd hz (by decide)
  exact h
 obtain⟨b,off,rfl,-,hx⟩:=aL 0 hp;have h0:=hx 0 hp;have hb:=S8 Hz (i:=0) hp;rw[Nat.zero_div,Nat.zero_mod,Nat.pow_zero,Nat.div_one,Nat.div_one,cJ hp] at hb;unfold maxLen at eH;exact⟨b,off,L.length,c,L[0],rfl,hp,by omega,h0,Hz _ (yV hp),hb⟩
theorem WAt.zero {w:World} {v:Value} (h:WAt w v 0):∃A c,v=.slice A 0 c:=by
 obtain⟨A,c,L,rfl,hl,Hz,Hy,hz⟩:=h.1;rw[(I8 Hy).1 hz];exact⟨A,c,rfl⟩
theorem B4 (x:Nat):(bits .and .u32 (x:Int) 1==0)=decide (x%2=0):=by
 rw[B5,Bool.eq_iff_iff,beq_iff_eq,decide_eq_true_eq];omega
theorem ri {x z:Nat} (h:x%2=z%2) (hz:z%2=0):(bits .and .u32 (x:Int) 1==0)=true:=by rw[B4];exact yD (by omega)
theorem uo {x z:Nat} (h:x%2=z%2) (hz:¬z%2=0):(bits .and .u32 (x:Int) 1==0)=false:=by rw[B4];exact yC (by omega)
structure Twos (M a b t x y:Nat):Prop where
 x0:0<x
 y0:0<y
 xm:2^t*x<M
 ym:y<M
 g:Nat.gcd a b=2^t*Nat.gcd x y
theorem Twos.half {M a b t x y:Nat} (h:Twos M a b t x y) (hx:x%2=0) (hy:y%2=0):Twos M a b (t+1) (x/2) (y/2):=by
 have hx0:=h.x0;have hy0:=h.y0;have hxm:=h.xm;have hym:=h.ym;refine⟨by omega,by omega,?_,by omega,?_⟩
 ·rw[yW,yY,show 2*(x/2)=x by omega];exact hxm
 rw[h.g,xr hx hy,yW,yY]
theorem Twos.xlt {M a b t x y:Nat} (h:Twos M a b t x y):x<M:=Nat.lt_of_le_of_lt (Nat.le_mul_of_pos_left _ (Nat.two_pow_pos t)) h.xm
theorem Twos.few {K a b t x y:Nat} (h:Twos (4294967296^K) a b t x y):t<32*K:=by
 have h1:2^t*1≤2^t*x:=Nat.mul_le_mul_left _ h.x0;have h2:=h.xm;rw[om] at h2;rw[Nat.mul_one] at h1;exact (Nat.pow_lt_pow_iff_right (a:=2) (by decide)).1 (Nat.lt_of_le_of_lt h1 h2)
theorem Twos.glt {M a b t x y:Nat} (h:Twos M a b t x y):2^t*Nat.gcd x y<M:=Nat.lt_of_le_of_lt (Nat.mul_le_mul_left _ (Nat.gcd_le_left _ h.x0)) h.xm
structure Stn (M G x y:Nat):Prop where
 y0:0<y
 xm:x<M
 ym:y<M
 g:Nat.gcd x y=G
 odd:x%2=1∨y%2=1
theorem Stn.left {M G x y:Nat} (h:Stn M G x y) (hx:x%2=0):Stn M G (x/2) y:=by
 have hxm:=h.xm;have ho:y%2=1:=by have:=h.odd;omega
 exact⟨h.y0,by omega,h.ym,by rw[vU hx ho];exact h.g,.inr ho⟩
theorem Stn.right {M G x y:Nat} (h:Stn M G x y) (hx:x%2=1) (hy:y%2=0):Stn M G x (y/2):=by
 have hy0:=h.y0;have hym:=h.ym;exact⟨by omega,h.xm,by omega,by rw[Ib hx hy];exact h.g,.inl hx⟩
theorem Stn.swap {M G x y:Nat} (h:Stn M G x y) (hx:x%2=1):Stn M G y x:=⟨by omega,h.ym,h.xm,by rw[Nat.gcd_comm];exact h.g,.inr hx⟩
theorem Stn.diff {M G x y:Nat} (h:Stn M G x y) (hy:y%2=1) (iD:y≤x):Stn M G (x-y) y:=by
 have hxm:=h.xm;exact⟨h.y0,by omega,h.ym,by rw[RG iD];exact h.g,.inr hy⟩
theorem S3 (v u:Value) (a b K:Nat) (w:World) (hv:WAt w v a) (hu:WAt w u b) (hK:K≤500000) (ha:a<4294967296^K) (hb:b<4294967296^K) (Hj:0<a) (gj:0<b):Calls Tryz.prog 267 #[v,u] w (qj5 (Nat.gcd a b) w):=by
 have HA:=zh hv;have HB:=zh hu;have HK:Y0 (K≤500000):=hK;have I2:Y0 (K≤1000000):=by unfold Y0;omega
 have HS:Y0 (Twos (4294967296^K) a b 0 a b):=⟨Hj,gj,by rw[Nat.pow_zero,Nat.one_mul];exact ha,hb,by rw[Nat.pow_zero,Nat.one_mul]⟩;clear hv hu hK ha hb Hj gj;go_enter Tryz.func267,Tryz.ntmps267;go_wp2_with fail;go_loopg [0,1,5] a (fun gk va vb tw wr=>∃y t:Nat,tw=.int .i64 t∧Y0 (WAt wr va gk)∧Y0 (WAt wr vb y)∧Y0 (Twos (4294967296^K) a b t gk y)∧Below w.heap.size w wr)
 case atStart=>exact⟨b,0,rfl,HA,HB,HS,yB _ _⟩
 clear HA HB HS;obtain⟨y,t,rfl,HA,HB,HS,aG⟩:=hrel;obtain⟨x,rfl⟩:∃x,x=gk:=⟨_,rfl⟩;have MA:=HA;have Mg:=HB;obtain⟨b1,o1,n1,c1,x1,rfl,xU,Rb,kG,Be,UL⟩:=HA.o.first HS.o.x0;obtain⟨b2,o2,n2,c2,x2,rfl,Ew,hm2,eH,CV,he2⟩:=HB.o.first HS.o.y0;have ht:t<16000000:=by have:=HS.o.few;have:=HK.o;omega
 have n1i:(0:Int)<(n1:Int):=by omega
 have n2i:(0:Int)<(n2:Int):=by omega
 by_cases hx:x%2=0
 case' pos=>
  have q1:=ri UL hx;by_cases hy:y%2=0
  case' pos=>
   have q2:=ri he2 hy;have gQ:=zh (HS.o.half hx hy);clear hx hy UL he2;go_wp2_with fail;refine (AF _ x K _ MA.o I2.o HS.o.xlt).mono ?_;rintro e w5 ⟨bf,va,rfl,R6,-⟩;have Mh:=zh R6;have dJ:=zh (Mg.o.grow bf);clear kG eH R6;go_wp2_with fail;refine (AF _ y K _ dJ.o I2.o HS.o.ym).mono ?_;rintro e w6 ⟨fk,vb,rfl,XG,-⟩;have HA6:=zh (Mh.o.grow fk);have ni:=zh XG;have jm:=zh (aG.trans ((bf.trans (fk.mono bf.size)).mono aG.size))
   clear XG bf fk Mh dJ aG HA HB MA Mg;have aI:Y0 (x/2<x):=Nat.div_lt_self HS.o.x0 (by decide);clear HS;go_wp2_with fail;go_roundg (x/2)
   case rel=>exact⟨y/2,t+1,by go_num,HA6,ni,gQ,jm.o⟩
   exact aI.o
  case' neg=>
   have q2:=uo he2 hy;have HT:Y0 (Stn (4294967296^K) (Nat.gcd x y) x y):=⟨HS.o.y0,HS.o.xlt,HS.o.ym,rfl,.inr (by omega)⟩;clear hx hy UL he2;go_wp2_with fail
 case' neg=>
  have q1:=uo UL hx;have HT:Y0 (Stn (4294967296^K) (Nat.gcd x y) x y):=⟨HS.o.y0,HS.o.xlt,HS.o.ym,rfl,.inl (by omega)⟩;clear hx UL he2;go_wp2_with fail
 all_goals
  have HF:Y0 (2^t*Nat.gcd x y<4294967296^K):=HS.o.glt;have HG:Y0 (Nat.gcd a b=2^t*Nat.gcd x y):=HS.o.g;obtain⟨wo,rfl⟩:∃wo:World,wo=wr:=⟨_,rfl⟩;obtain⟨G,Ma⟩:∃G,Y0 (Nat.gcd x y=G):=⟨_,rfl⟩;rw[Ma.o] at HF HG HT;clear kG eH HS q1;go_loopg [0,1] (x+y) (fun gk va vb wr=>∃x2 y2:Nat,x2+y2=gk∧Y0 (WAt wr va x2)∧Y0 (WAt wr vb y2)∧Y0 (Stn (4294967296^K) G x2 y2)∧Below w.heap.size w wr)
  case atStart=>exact⟨x,y,rfl,MA,Mg,HT,aG⟩
  clear HA HB MA Mg HT aG Ma;obtain⟨x2,y2,rfl,HA,HB,HS,aG⟩:=hrel;rcases Nat.eq_zero_or_pos x2 with h0|h0
  ·subst h0;obtain⟨A,c,rfl⟩:=HA.o.zero;have XV:Y0 (y2=G):=by
    unfold Y0;rw[←HS.o.g,Nat.gcd_zero_left]
   clear HS HA;rw[XV.o] at HB;clear XV;go_wp2_with fail;go_loopw [1,51] (fun vb jx wr=>∃j:Nat,j≤t∧jx=.int .i64 j∧Y0 (WAt wr vb (2^j*G))∧Below w.heap.size w wr) (fun _ jx _=>t-(intOf jx).toNat)
   case atStart=>exact⟨0,yI _,rfl,by rw[Nat.pow_zero,Nat.one_mul];exact HB,aG⟩
   clear HB aG;obtain⟨j,hj,rfl,HB,aG⟩:=hrel;by_cases hjt:j<t
   ·have HL:Y0 (2^j*G<4294967296^K):=Nat.lt_of_le_of_lt (Nat.mul_le_mul_right _ (Nat.pow_le_pow_right (by decide) hj)) HF.o;have HE:Y0 (2^j*G+2^j*G=2^(j+1)*G):=by unfold Y0;rw[Nat.pow_succ,Nat.mul_assoc,Nat.mul_left_comm];omega
    go_wp2_with fail;refine (JR _ _ (2^j*G) (2^j*G) K _ HB.o HB.o I2.o HL.o HL.o).mono ?_;rintro e w5 ⟨bf,vb5,rfl,Lm,-⟩;rw[HE.o] at Lm;have dJ:=zh Lm;have jm:=zh (aG.trans (bf.mono aG.size));clear bf Lm HE HL HB aG;go_wp2_with fail;go_roundw
    case rel=>exact⟨j+1,by omega,by go_num,dJ,jm.o⟩
    simp[intOf];omega
   obtain rfl:j=t:=by omega
   go_wp2_with fail;go_ret;exact⟨aG,_,rfl,by rw[HG.o];exact HB.o⟩
  have MA:=HA;obtain⟨b3,o3,n3,c3,x3,rfl,hn3,hm3,hc3,hl3,he3⟩:=HA.o.first h0;have H0:=zh h0;have Bb:=HB;obtain⟨bb,ob,nb,cb,zb,rfl,-,-,-,-,-⟩:=HB.o.first HS.o.y0;clear hc3 hl3 he3 h0 HA HB;have HB:=Bb;clear Bb;have hn:(0:Int)<(n3:Int):=by omega
  go_wp2_with fail;obtain⟨wo2,rfl⟩:∃wo2:World,wo2=wr:=⟨_,rfl⟩;go_loopg [0] x2 (fun gk va wr=>Y0 (WAt wr va gk)∧Y0 (WAt wr (.slice (some ⟨bb,ob,none⟩) nb cb) y2)∧Y0 (Stn (4294967296^K) G gk y2)∧Y0 (0<gk∧gk≤x2)∧Below w.heap.size w wr)
  case atStart=>exact⟨MA,HB,HS,⟨H0.o,yA _⟩,aG⟩
  clear MA HB HS H0 aG;obtain⟨HA,HB,HS,HR,aG⟩:=hrel;obtain⟨x4,rfl⟩:∃x4,x4=gk:=⟨_,rfl⟩;have MA:=HA;obtain⟨b4,o4,n4,c4,z4,rfl,hn4,hm4,hc4,hl4,he4⟩:=HA.o.first HR.o.1;clear HA;have vwP:(0:Int)<(n4:Int):=by omega
  by_cases nM:x4%2=0
  ·have q1:=ri he4 nM;have eP:=zh (HS.o.left nM);have ou:Y0 (0<x4/2∧x4/2≤x2):=by have:=HR.o;unfold Y0;omega
   have JZ:Y0 (x4/2<x4):=Nat.div_lt_self HR.o.1 (by decide);clear nM he4;go_wp2_with fail;refine (AF _ x4 K _ MA.o I2.o HS.o.xm).mono ?_;rintro e w5 ⟨bf,va5,rfl,R6,-⟩;have Mh:=zh R6;have dJ:=zh (HB.o.grow bf);have jm:=zh (aG.trans (bf.mono aG.size));clear bf R6 HB aG MA hc4 HS HR q1;go_wp2_with fail;go_roundg (x4/2)
   case rel=>exact⟨Mh,dJ,eP,ou,jm.o⟩
   exact JZ.o
  have q1:=uo he4 nM;have Ta:Y0 (x4%2=1):=by unfold Y0;omega
  clear nM he4;go_wp2_with fail;obtain⟨wo3,rfl⟩:∃wo3:World,wo3=wr:=⟨_,rfl⟩;clear hc4 q1;go_loopg [1] y2 (fun gk vb wr=>Y0 (WAt wr (.slice (some ⟨b4,o4,none⟩) n4 c4) x4)∧Y0 (WAt wr vb gk)∧Y0 (Stn (4294967296^K) G x4 gk)∧Y0 (gk≤y2)∧Below w.heap.size w wr)
  case atStart=>exact⟨MA,HB,HS,yA _,aG⟩
  clear MA HB HS aG;obtain⟨HA,HB,HS,HY,aG⟩:=hrel;obtain⟨y4,rfl⟩:∃y4,y4=gk:=⟨_,rfl⟩;have Mg:=HB;obtain⟨b5,o5,n5,c5,z5,rfl,hn5,hm5,hc5,hl5,he5⟩:=HB.o.first HS.o.y0;clear HB;have vwO:(0:Int)<(n5:Int):=by omega
  by_cases nM:y4%2=0
  ·have q1:=ri he5 nM;have eP:=zh (HS.o.right Ta.o nM);have HY5:Y0 (y4/2≤y2):=by have:=HY.o;unfold Y0;omega
   have JZ:Y0 (y4/2<y4):=Nat.div_lt_self HS.o.y0 (by decide);clear nM he5;go_wp2_with fail;refine (AF _ y4 K _ Mg.o I2.o HS.o.ym).mono ?_;rintro e w5 ⟨bf,vb5,rfl,Lm,-⟩;have dJ:=zh Lm;have Mh:=zh (HA.o.grow bf);have jm:=zh (aG.trans (bf.mono aG.size));clear bf Lm Mg aG HA hc5 HS HY q1;go_wp2_with fail;go_roundg (y4/2)
   case rel=>exact⟨Mh,dJ,eP,HY5,jm.o⟩
   exact JZ.o
  have q1:=uo he5 nM;have HOy:Y0 (y4%2=1):=by unfold Y0;omega
  clear nM he5;go_wp2_with fail;refine (S4 _ _ x4 y4 _ HA.o Mg.o).mono ?_;rintro e w7 ⟨⟨q7,rfl⟩,r7,rfl,J0,-⟩;have Tq:=zh (HA.o.drewN q7);have rF:=zh (Mg.o.drewN q7);have jm:=zh (Zf aG q7);clear HA Mg aG hc5 q1;by_cases aI:x4<y4
  ·have hd:decide (r7<0)=true:=by rw[J0];exact yD aI
   have qn:=zh (YG aI);have dU:=zh ((HS.o.swap Ta.o).diff Ta.o (YG aI));have HM:Y0 (y4-x4+x4<x2+y2):=by have:=HR.o;have:=HY.o;unfold Y0;omega
   clear aI J0;go_wp2_with fail;refine (wE _ _ y4 x4 K _ rF.o Tq.o I2.o HS.o.ym qn.o).mono ?_;rintro e w8 ⟨aT,v8,rfl,yc,-⟩;have pj:=zh yc;have HA8:=zh (Tq.o.grow aT);have eG:=zh (jm.o.trans (aT.mono jm.o.size));clear aT yc Tq rF jm HS;go_wp2_with fail;go_roundg (y4-x4+x4)
   case rel=>exact⟨y4-x4,x4,rfl,pj,HA8,dU,eG.o⟩
   exact HM.o
  have hd:decide (r7<0)=false:=by rw[J0];exact yC aI
  have qn:=zh (Nat.not_lt.1 aI);have dU:=zh (HS.o.diff HOy.o (Nat.not_lt.1 aI));have HM:Y0 (x4-y4+y4<x2+y2):=by have:=HR.o;have:=HY.o;have:=HS.o.y0;unfold Y0;omega
  clear aI J0;go_wp2_with fail;refine (wE _ _ x4 y4 K _ Tq.o rF.o I2.o HS.o.xm qn.o).mono ?_;rintro e w8 ⟨aT,v8,rfl,yc,-⟩;have pj:=zh yc;have eG:=zh (rF.o.grow aT);have Bc:=zh (jm.o.trans (aT.mono jm.o.size));clear aT yc Tq rF jm HS;go_wp2_with fail;go_roundg (x4-y4+y4)
  case rel=>exact⟨x4-y4,y4,rfl,pj,eG,dU,Bc.o⟩
  exact HM.o
def NumAt (w:World) (v:Value) (z:Int):Prop:=∃(neg:Bool) (s:Value) (m:Nat),v=.agg #[.bool neg,s]∧WAt w s m∧z=if neg=true then -(m:Int) else m
theorem NumAt.grow {w w':World} {v:Value} {z:Int} (h:NumAt w v z) (hb:Below w.heap.size w w'):NumAt w' v z:=by
 obtain⟨neg,s,m,h1,h2,h3⟩:=h;exact⟨neg,s,m,h1,h2.grow hb,h3⟩
theorem WAt.setBox {w:World} {v:Value} {z D:Nat} {t:TypeId} {cs:Array Value} (h:WAt w v z) (hD:Blk w D t cs) (ht:t≠232) (i:Nat) (x:Value):WAt (w.setCell ⟨D,i,none⟩ x) v z:=h.other D i x (h.apart hD ht)
theorem NumAt.setBox {w:World} {v:Value} {z:Int} {D:Nat} {t:TypeId} {cs:Array Value} (h:NumAt w v z) (hD:Blk w D t cs) (ht:t≠232) (i:Nat) (x:Value):NumAt (w.setCell ⟨D,i,none⟩ x) v z:=by
 obtain⟨neg,s,m,h1,h2,h3⟩:=h;exact⟨neg,s,m,h1,h2.setBox hD ht i x,h3⟩
theorem NumAt.kept {w w':World} {v:Value} {z:Int} {row:Option Nat} {t:TypeId} (h:NumAt w v z) (wR:w.grownBy w' row) (hg:∀g,row=some g→∃cs r,w.heap[g]?=some (.cells cs t r)) (ht:t≠232):NumAt w' v z:=by
 obtain⟨neg,s,m,h1,h2,h3⟩:=h;refine⟨neg,s,m,h1,h2.kept wR (fun g e=>?_),h3⟩;obtain⟨cs,r,e1⟩:=hg g e;exact h2.apart e1 ht
theorem NumAt.form {w:World} {v:Value} {z:Int} (h:NumAt w v z):∃n A l c,v=.agg #[.bool n,.slice A l c]∧l≤9223372036854775807:=by
 obtain⟨neg,s,m,rfl,⟨⟨A,c,L,rfl,hl,-⟩,-⟩,-⟩:=h;obtain⟨_,_,e,kG,eH,-⟩:=hl.open_;injection e with e1 _ e2;subst e1 e2;unfold maxLen at eH;exact⟨neg,A,_,c,rfl,by omega⟩
def MakesN (z:Int) (w:World) (e:Ending) (w':World):Prop:=Below w.heap.size w w'∧∃v,e=.returned v∧NumAt w' v z
theorem cu (w:World) (t1 t2 t3:TypeId) (c1 c2 c3:Array Value) :
  Blk (((w.alloc (.cells c1 t1)).alloc (.cells c2 t2)).alloc (.cells c3 t3)) w.heap.size t1 c1∧Blk (((w.alloc (.cells c1 t1)).alloc (.cells c2 t2)).alloc (.cells c3 t3)) (w.heap.size+1) t2 c2 ∧
   Blk (((w.alloc (.cells c1 t1)).alloc (.cells c2 t2)).alloc (.cells c3 t3)) (w.heap.size+1+1) t3 c3∧Below w.heap.size w (((w.alloc (.cells c1 t1)).alloc (.cells c2 t2)).alloc (.cells c3 t3)):=by
 refine⟨((Blk.new w t1 c1).alloc _).alloc _,?_,?_,(((yB _ _).alloc (yA _) _).alloc (by simp) _).alloc (by simp;omega) _⟩
 ·have:=(Blk.new (w.alloc (.cells c1 t1)) t2 c2).alloc (.cells c3 t3);simpa using this
 have:=Blk.new ((w.alloc (.cells c1 t1)).alloc (.cells c2 t2)) t3 c3;simpa using this
def iI (z:Int):Int:=if z=0 then 0 else if z<0 then -1 else 1
theorem Sw (v:Value) (z:Int) (w:World) (hv:NumAt w v z):Calls Tryz.prog 235 #[v] w fun e w'=>e=.returned (.int .i64 (iI z))∧Below w.heap.size w w':=by
 obtain⟨neg,s,m,rfl,⟨⟨A,c,L,rfl,hl,Hz,Hy,rfl⟩,-⟩,hz⟩:=hv;obtain⟨_,_,e,kG,eH,-⟩:=hl.open_;injection e with e1 _ e2;subst e1 e2;unfold maxLen at eH;have kg:=I8 Hy;have He:Below w.heap.size w (w.alloc (.cells #[.bool neg,.slice A L.length c] 221)):=(yB _ _).alloc (yA _) _;by_cases h0:L.length=0
 ·have HV:Y0 (iI z=0):=by
   unfold Y0 iI;rw[hz,kg.2 (List.length_eq_zero_iff.1 h0)];simp
  have hd:((L.length:Int)==0)=true:=beq_iff_eq.2 (by omega);clear hl Hz Hy kg hz h0;go_enter Tryz.func235,Tryz.ntmps235;go_wp2_with fail;go_ret;exact⟨ij HV.o.symm,He⟩
 have hp:0<wv L:=by
  rcases Nat.eq_zero_or_pos (wv L) with h|h
  ·exact absurd (by rw[kg.1 h];rfl) h0
  exact h
 have hd:((L.length:Int)==0)=false:=zb (by omega);cases neg
 case true=>
  have HV:Y0 (iI z=-1):=by
   unfold Y0 iI;rw[hz,if_pos rfl,if_neg (by omega),if_pos (by omega)]
  clear hl Hz Hy kg hz h0 hp;go_enter Tryz.func235,Tryz.ntmps235;go_wp2_with fail;go_ret;exact⟨ij HV.o.symm,He⟩
 have HV:Y0 (iI z=1):=by
  unfold Y0 iI;simp only[Bool.false_eq_true,if_false] at hz;rw[hz,if_neg (by omega),if_neg (by omega)]
 clear hl Hz Hy kg hz h0 hp;go_enter Tryz.func235,Tryz.ntmps235;go_wp2_with fail;go_ret;exact⟨ij HV.o.symm,He⟩
theorem Sz (v:Value) (z:Int) (w:World) (hv:NumAt w v z):Calls Tryz.prog 243 #[v] w (MakesN (-z) w):=by
 obtain⟨neg,s,m,rfl,hW,hz⟩:=hv;have HW:=zh hW;have HZ:Y0 (-z=if (!neg)=true then -(m:Int) else m):=by
  unfold Y0;rw[hz];cases neg <;> simp
 obtain⟨A,c,L,rfl,-,-,-,-⟩:=hW.1;clear hz;go_enter Tryz.func243,Tryz.ntmps243;go_wp2_with fail;refine YF (v:=.agg #[.bool (!neg),.slice A L.length c]) (by simp[results,Tryz.results243,go_sem]) rfl ?_;have bg:Below w.heap.size w ((w.alloc (.cells #[.bool neg,.slice A L.length c] 221)).alloc (.cells #[.bool !neg,.slice A L.length c] 221)):=((yB _ _).alloc (yA _) _).alloc (by simp) _;exact⟨bg,_,rfl,!neg,_,m,rfl,HW.o.grow bg,HZ.o⟩
theorem OwnW.other {w:World} {g n:Nat} {L:List Nat} (h:OwnW w g n L) (b i:Nat) (v:Value) (hb:b≠g):OwnW (w.setCell ⟨b,i,none⟩ v) g n L:=by
 have wR:w.grownBy (w.setCell ⟨b,i,none⟩ v) (some b):=⟨rfl,rfl,rfl,by simp[World.setCell],fun k _ hk=>Below.heap_setCell w _ _ k (fun e=>hk (by rw[e]))⟩;exact World.ownsRow.kept h wR (by simp[Value.ownBlock];omega)
structure TmSt (w wr:World) (g n:Nat) (n1 n2:Bool) (sx sy:Value) (O:List Nat):Prop where
 own:OwnW wr g n O
 ok:Wok O
 bel:Below w.heap.size w wr
 gw:w.heap.size+3≤g
 d1:Blk wr w.heap.size 221 #[.bool n1,sx]
 d2:Blk wr (w.heap.size+1) 221 #[.bool n2,sy]
 d3:Blk wr (w.heap.size+1+1) 221 #[.bool false,.slice none 0 0]
theorem TmSt.set {w wr:World} {g n:Nat} {n1 n2:Bool} {sx sy:Value} {O:List Nat} (h:TmSt w wr g n n1 n2 sx sy O) (i x:Nat) (hx:x<4294967296):TmSt w (wr.setCell ⟨g,i,none⟩ (.int .u32 (x:Nat))) g n n1 n2 sx sy (O.set i x):=by
 have hg:=h.gw;have wR:wr.grownBy (wr.setCell ⟨g,i,none⟩ (.int .u32 (x:Nat))) (some g):=⟨rfl,rfl,rfl,by simp[World.setCell],fun k _ hk=>Below.heap_setCell wr _ _ k (fun e=>hk (by rw[e]))⟩;exact⟨h.own.set_ i x,h.ok.set i hx,h.bel.setCell (p:=⟨g,i,none⟩) (by show w.heap.size≤g;omega) _,hg,h.d1.kept wR (by simp;omega),h.d2.kept wR (by simp;omega),h.d3.kept wR (by simp;omega)⟩
theorem kI (v u:Value) (x y:Int) (K:Nat) (w:World) (hv:NumAt w v x) (hu:NumAt w u y) (hK:K≤400000) (hx:x.natAbs<4294967296^K) (hy:y.natAbs<4294967296^K) :
    Calls Tryz.prog 240 #[v,u] w (MakesN (x*y) w):=by
  obtain⟨n1,s1,m1,rfl,⟨⟨A,c,X,rfl,hl,Mv,Rw,rfl⟩,-⟩,qjk⟩:=hv;obtain⟨n2,s2,m2,rfl,⟨⟨A',c',Y,rfl,hm,hYo,hYt,rfl⟩,-⟩,qjj⟩:=hu;have hX6:X.length ≤ 400000 := yH (jM Rw (by
   have:x.natAbs=wv X := by rw[qjk]; cases n1 <;> simp
   rwa [this] at hx)) hK
  have hY6:Y.length ≤ 400000 := yH (jM hYt (by
   have:y.natAbs=wv Y := by rw[qjj]; cases n2 <;> simp
   rwa [this] at hy)) hK
  have HZ:Y0 (x*y=if (n1 != n2)=true then -((wv X*wv Y:Nat):Int) else ((wv X*wv Y:Nat):Int)):=by
    unfold Y0;rw[qjk,qjj,Int.natCast_mul];cases n1 <;> cases n2 <;> simp[Int.mul_neg,Int.neg_mul]
  obtain⟨_,_,e,kG,eH,aL⟩:=hl.open_;injection e with e1 _ e2;subst e1 e2;obtain⟨_,_,e,qo,mA,nO⟩:=hm.open_;injection e with e1 _ e2;subst e1 e2;unfold maxLen at eH mA;have HX:=zh aL;have HY:=zh nO;have E5:=zh Mv;have HYo:=zh hYo;obtain⟨i0,m9,kg,lP,mX⟩:=info_parts nI;have cm:i0.bytes*(X.length+Y.length)≤281474976710656:=by rw[mX]; omega
  clear aL nO hl hm Mv Rw hYo hYt hx hy hK qjk qjj;have B1:Y0 (Blk (((w.alloc (.cells #[.bool n1,.slice A X.length c] 221)).alloc (.cells #[.bool n2,.slice A' Y.length c'] 221)).alloc (.cells #[.bool false,.slice none 0 0] 221)) w.heap.size 221 #[.bool n1,.slice A X.length c]):=((Blk.new w 221 #[.bool n1,.slice A X.length c]).alloc _).alloc _;have B2:Y0 (Blk (((w.alloc (.cells #[.bool n1,.slice A X.length c] 221)).alloc (.cells #[.bool n2,.slice A' Y.length c'] 221)).alloc (.cells #[.bool false,.slice none 0 0] 221)) (w.heap.size+1) 221 #[.bool n2,.slice A' Y.length c']):=by
    have:=(Blk.new (w.alloc (.cells #[.bool n1,.slice A X.length c] 221)) 221 #[.bool n2,.slice A' Y.length c']).alloc (.cells #[.bool false,.slice none 0 0] 221);unfold Y0;simpa using this
  have B3:Y0 (Blk (((w.alloc (.cells #[.bool n1,.slice A X.length c] 221)).alloc (.cells #[.bool n2,.slice A' Y.length c'] 221)).alloc (.cells #[.bool false,.slice none 0 0] 221)) (w.heap.size+1+1) 221 #[.bool false,.slice none 0 0]):=by
    have:=Blk.new ((w.alloc (.cells #[.bool n1,.slice A X.length c] 221)).alloc (.cells #[.bool n2,.slice A' Y.length c'] 221)) 221 #[.bool false,.slice none 0 0];unfold Y0;simpa using this
  have bE:Y0 (Below w.heap.size w (((w.alloc (.cells #[.bool n1,.slice A X.length c] 221)).alloc (.cells #[.bool n2,.slice A' Y.length c'] 221)).alloc (.cells #[.bool false,.slice none 0 0] 221))):=(((yB _ _).alloc (yA _) _).alloc (by simp) _).alloc (by simp; omega) _;go_enter Tryz.func240,Tryz.ntmps240;go_wp2_with (
    at_make
    refine wpList_make_full _ rfl _ _ 219 rfl _ 232 i0 (.int .u32 0) 1 Tryz.underlying219 m9 kg lP .i64 .i64 _ _ (X.length+Y.length) rfl rfl rfl rfl cm (by unfold maxLen; omega) (Nat.le_refl _) ?_;intro w4 bK bA;have D1:=zh (B1.o.kept bA (by simp));have D2:=zh (B2.o.kept bA (by simp));have D3:=zh (B3.o.kept bA (by simp));have fj:=zh (bE.o.grown bA bE.o.size (fun k hk=>by cases hk));have gT:=D1.o.cell 0
    have jz:=D1.o.cell 1;have jb:=D2.o.cell 0;have iJ:=D2.o.cell 1;simp only[aB,aD,aA] at gT jz jb iJ)
  rw[nG] at bK;simp only[World.size_alloc] at bK;have tu:Y0 (TmSt w w4 (w.heap.size+1+1+1) (X.length+Y.length) n1 n2 (.slice A X.length c) (.slice A' Y.length c') (List.replicate (X.length+Y.length) 0)):=⟨bK,Wok.zeros _,fj.o,by omega,D1.o,D2.o,D3.o⟩;obtain⟨g,hg⟩:=zo (w.heap.size+1+1+1);rw[hg] at tu;simp only[hg];have wU:Y0 (aJ (aZ (List.replicate (X.length+Y.length) 0)) (X.length+Y.length)=aJ (aZ X) 0*wv Y):=by
    unfold Y0;rw[u7];show 0=0*wv Y;rw[Nat.zero_mul]
  have M8:Y0 (∀j,0+Y.length≤j→aZ (List.replicate (X.length+Y.length) 0) j=0):=fun j _=>rM _ j;clear bK bA m9 kg lP cm hg D1 D2 D3 fj B1 B2 B3 bE gT jz jb iJ;go_loopw [22] (fun ix wr=>∃(i:Nat) (O:List Nat),i≤X.length∧ix=.int .i64 i∧Y0 (TmSt w wr g (X.length+Y.length) n1 n2 (.slice A X.length c) (.slice A' Y.length c') O)∧Y0 (aJ (aZ O) (X.length+Y.length)=aJ (aZ X) i*wv Y)∧Y0 (∀j,i+Y.length≤j→aZ O j=0)) (fun ix _=>X.length-(intOf ix).toNat)
  case atStart=>exact⟨0,_,yI _,rfl,tu,wU,M8⟩
  clear tu wU M8;obtain⟨i,O,hi,rfl,HT,HS,HN⟩:=hrel;have j0:(0:Int)≤(i:Int):=yE _;have jb:=HT.o.d2.cell 0;have iJ:=HT.o.d2.cell 1;simp only[aB,aD,aA] at jb iJ;by_cases hix:i<X.length
  · have j1:(i:Int)<(X.length:Int):=by omega
    obtain⟨b1,o1,rfl,ak,La⟩:=HX.o i hix;have hx:=La i hix;unfold oS at hx;have x0:X[i]<4294967296:=E5.o _ (yV hix);have hx:=(HT.o.bel.cell (p:=⟨b1,o1+i,none⟩) ak).trans hx;have zi:Y0 (aZ X i=X[i]):=cJ hix;clear La;generalize X[i]=x at*;have x1:(x:Int)<4294967296:=by omega
    have x2:(0:Int)≤(x:Int):=yE _;have tv:Y0 (aJ (aZ O) (X.length+Y.length)+4294967296^(i+0)*0=aJ (aZ X) i*wv Y+4294967296^i*(x*aJ (aZ Y) 0)):=by
      unfold Y0;rw[HS.o,Nat.mul_zero];show _=_+4294967296^i*(x*0);rw[Nat.mul_zero,Nat.mul_zero]
    go_wp2_with fail;go_loopw [8,30] (fun cx kx wr=>∃(k cy:Nat) (O:List Nat),k≤Y.length∧kx=.int .i64 k∧cx=.int .u64 (cy:Nat)∧cy<4294967296∧Y0 (TmSt w wr g (X.length+Y.length) n1 n2 (.slice (some ⟨b1,o1,none⟩) X.length c) (.slice A' Y.length c') O)∧Y0 (aJ (aZ O) (X.length+Y.length)+4294967296^(i+k)*cy=aJ (aZ X) i*wv Y+4294967296^i*(x*aJ (aZ Y) k))∧Y0 (∀j,i+Y.length≤j→aZ O j=0)) (fun _ kx _=>Y.length-(intOf kx).toNat)
    case atStart=>exact⟨0,0,O,yI _,rfl,rfl,by decide,HT,tv,HN⟩
    clear HT HS tv HN jb iJ;obtain⟨k,cy,O,hk,rfl,rfl,hcy,HT,HS,HN⟩:=hrel;have k0:(0:Int)≤(k:Int):=yE _;have c2:(0:Int)≤(cy:Int):=yE _;have c3:(cy:Int)<4294967296:=by omega
    have jb:=HT.o.d2.cell 0;have iJ:=HT.o.d2.cell 1;simp only[aB,aD,aA] at jb iJ;by_cases aK:k<Y.length
    · have k1:(k:Int)<(Y.length:Int):=by omega
      obtain⟨b2,o2,rfl,bg,hyc⟩:=HY.o k aK;have hy:=hyc k aK;unfold oS at hy;have y0:Y[k]<4294967296:=HYo.o _ (yV aK);have hy:=(HT.o.bel.cell (p:=⟨b2,o2+k,none⟩) bg).trans hy;have oU:Y0 (aZ Y k=Y[k]):=cJ aK;clear hyc;generalize Y[k]=y at*;have y1:(y:Int)<4294967296:=by omega
      have y2:(0:Int)≤(y:Int):=yE _;have z1:=HT.o.own.cell (show i+k<X.length+Y.length by omega);have z2:=HT.o.own.frozen (i+k);have o0:aZ O (i+k)<4294967296:=ia HT.o.ok _;have HMc:=zh (KL x0 y0 o0 hcy);have oW:Y0 (aJ (aZ (O.set (i+k) ((x*y+aZ O (i+k)+cy)%4294967296))) (X.length+Y.length)+4294967296^(i+k+1)*((x*y+aZ O (i+k)+cy)/4294967296)=aJ (aZ X) i*wv Y+4294967296^i*(x*aJ (aZ Y) (k+1))):=by
        have h:=Uv (x:=x) (y:=y) (show i+k<O.length by rw[HT.o.own.len]; omega) HT.o.own.len HS.o;exact h.trans (Ux oU.o.symm)
      have aW:=zh (HT.o.set (i+k) ((x*y+aZ O (i+k)+cy)%4294967296) (YJ _ (by decide)));have HNt:Y0 (∀j,i+Y.length≤j→aZ (O.set (i+k) ((x*y+aZ O (i+k)+cy)%4294967296)) j=0):=fun j hj=>by
        rw[iX (by rw[HT.o.own.len]; omega),if_neg (by omega)];exact HN.o j hj
      generalize aZ O (i+k)=o at*;have o1':(o:Int)<4294967296:=by omega
      have o2':(0:Int)≤(o:Int):=yE _;have xy0:(0:Int)≤(x:Int)*(y:Int):=Int.mul_nonneg x2 y2;have xy1:(x:Int)*(y:Int)≤18446744065119617025:=by
        have:(x:Int)*(y:Int)≤4294967295*4294967295:=Int.mul_le_mul (by omega) (by omega) y2 (by decide);omega
      have ik0:(0:Int)≤(i:Int)+(k:Int):=by omega
      have ik1:(i:Int)+(k:Int)<(X.length:Int)+(Y.length:Int):=by omega
      have ik2:((i:Int)+(k:Int)).toNat=i+k:=by omega
      have eN:x*y+o+cy=cy+(x*y+o):=Nat.add_comm _ _;rw[eN] at oW aW HNt HMc;clear eN;go_wp2_with fail;clear HT HS HN z1 z2;go_roundw
      case rel=>exact⟨k+1,(cy+(x*y+o))/4294967296,_,by omega,by go_num,by go_num,HMc.o.2,aW,oW,HNt⟩
      simp[intOf]; omega
    obtain rfl:k=Y.length:=by omega
    have z1:=HT.o.own.cell (show i+Y.length<X.length+Y.length by omega);have z2:=HT.o.own.frozen (i+Y.length);have aW:=zh (HT.o.set (i+Y.length) cy hcy);have oW:Y0 (aJ (aZ (O.set (i+Y.length) cy)) (X.length+Y.length)=aJ (aZ X) (i+1)*wv Y):=by
      have h:=Qz (show i+Y.length<O.length by rw[HT.o.own.len]; omega) HT.o.own.len (HN.o _ (yA _)) HS.o;rw[←zi.o] at h;exact h.trans Qy
    have HNt:Y0 (∀j,i+1+Y.length≤j→aZ (O.set (i+Y.length) cy) j=0):=fun j hj=>by
      rw[iX (by rw[HT.o.own.len]; omega),if_neg (by omega)];exact HN.o j (by omega)
    have ik0:(0:Int)≤(i:Int)+(Y.length:Int):=by omega
    have ik1:(i:Int)+(Y.length:Int)<(X.length:Int)+(Y.length:Int):=by omega
    have ik2:((i:Int)+(Y.length:Int)).toNat=i+Y.length:=by omega
    go_wp2_with fail;clear HT HS HN z1 z2;go_roundw
    case rel=>exact⟨i+1,_,by omega,by go_num,aW,oW,HNt⟩
    simp[intOf]; omega
  obtain rfl:i=X.length:=by omega
  have hTr:∀t:HeldB wr,Calls Tryz.prog 266 #[.slice (some ⟨g,0,none⟩) (X.length+Y.length) (X.length+Y.length)] t.w fun e w'=>e=.returned (.slice (some ⟨g,0,none⟩) (gg O) (X.length+Y.length))∧∃t':HeldB wr,w'=t'.w:=fun t=>by
    have h:=sJ (some ⟨g,0,none⟩) (X.length+Y.length) t.w.heap.size O t.w (HT.o.own.below t.h).at_;rw[HT.o.own.len] at h;exact h.mono fun e w' ⟨h1,h2⟩=>⟨h1,t,h2.symm⟩
  have gT:=HT.o.d1.cell 0;have jb:=HT.o.d2.cell 0;simp only[aB,aA] at gT jb;have sR:=YL gT;have wQ:=YL jb;clear gT jb iJ;go_wp2_with fail;refine pw 8 (by kernel_rfl) (by kernel_rfl) ?_;simp only[aO,aR,aP,aQ]
  repeat (go_big_quiet_step ((go_at_call 266; exact hTr _)))
  refine YE ?_;rintro w5 ⟨⟨w6,bf⟩,rfl⟩;have eJ:=zh (HT.o.d3.below bf HT.o.d3.lt);have M4:=zh (HT.o.own.below bf);have VO:=zh HT.o.ok;have jm:=zh (HT.o.bel.trans (bf.mono HT.o.bel.size));have Ad:=HT.o.gw;have Qn:=eJ.o.cell 0;have Qm:=eJ.o.cell 1;have f30:=eJ.o.frozen 0;have f31:=eJ.o.frozen 1;simp only[aB,aD,aA] at Qn Qm;clear sR wQ hTr HT;go_wp2_with fail;refine YF (v:=.agg #[.bool (!(n1==n2)),.slice (some ⟨g,0,none⟩) (gg O) (X.length+Y.length)]) (by simp[results,Tryz.results240,go_sem,Qn,Qm]) rfl ?_
  have gu:=(jm.o.setCell (p:=⟨w.heap.size+1+1,0,none⟩) (show w.heap.size≤w.heap.size+1+1 by omega) (.bool !n1==n2)).setCell (p:=⟨w.heap.size+1+1,1,none⟩) (show w.heap.size≤w.heap.size+1+1 by omega) (.slice (some ⟨g,0,none⟩) (gg O) (X.length+Y.length));have hO7:=(M4.o.other (w.heap.size+1+1) 0 (.bool !n1==n2) (by omega)).other (w.heap.size+1+1) 1 (.slice (some ⟨g,0,none⟩) (gg O) (X.length+Y.length)) (by omega)
  obtain⟨t1,t2,t3⟩:=iO O;have hO:wv O=wv X*wv Y:=by
    have h:=HS.o;rw[←M4.o.len] at h;exact h
  exact⟨gu,_,rfl,!(n1==n2),_,wv X*wv Y,rfl,WAt.of_trim hO7 VO.o t1 t2 (t3.trans hO),HZ.o⟩
def gW (z:Nat):GPost:=⟨fun v=>∃A n c,v=.slice A n c,fun v w=>WAt w v z,⟨.slice none 0 0,none,0,0,rfl⟩,fun _ _ _ hb h=>WAt.grow h hb,false⟩
def gN (z:Int):GPost:=⟨fun v=>∃n A l c,v=.agg #[.bool n,.slice A l c],fun v w=>NumAt w v z,⟨.agg #[.bool false,.slice none 0 0],false,none,0,0,rfl⟩,fun _ _ _ hb h=>NumAt.grow h hb,false⟩
theorem MakesW.g {P:Program} {f:FuncId} {args:Array Value} {w:World} {z:Nat} (h:Calls P f args w (MakesW z w)):Calls P f args w fun e w'=>∃v,e=.returned v∧Below w.heap.size w w'∧(gW z).σ v∧(gW z).φ v w' :=
 h.mono fun _ _ ⟨hb,v,he,hW,_⟩=>⟨v,he,hb,(by obtain⟨⟨A,c,L,h1,_⟩,_⟩:=hW;exact⟨A,_,c,h1⟩),hW⟩
theorem MakesN.g {P:Program} {f:FuncId} {args:Array Value} {w:World} {z:Int} (h:Calls P f args w (MakesN z w)):Calls P f args w fun e w'=>∃v,e=.returned v∧Below w.heap.size w w'∧(gN z).σ v∧(gN z).φ v w' :=
 h.mono fun _ _ ⟨hb,v,he,hN⟩=>⟨v,he,hb,(by obtain⟨n,A,l,c,h1,_⟩:=hN.form;exact⟨n,A,l,c,h1⟩),hN⟩
theorem qzg (v u:Value) (x y:Int) (K:Nat) (w:World) (hv:NumAt w v x) (hu:NumAt w u y) (hK:K≤1000000) (hx:x.natAbs<4294967296^K) (hy:y.natAbs<4294967296^K) :
  Calls Tryz.prog 241 #[v,u] w (MakesN (x+y) w):=by
 obtain⟨n1,s1,m1,rfl,tJ,lP⟩:=hv;obtain⟨n2,s2,m2,rfl,uc,mX⟩:=hu;have e1:x.natAbs=m1:=by rw[lP];cases n1 <;> simp
 have e2:y.natAbs=m2:=by rw[mX];cases n2 <;> simp
 rw[e1] at hx;rw[e2] at hy;have HAdd:Y0 (∀w',Below w.heap.size w w'→Calls Tryz.prog 269 #[s1,s2] w' (MakesW (m1+m2) w')):=fun w' hb=>JR s1 s2 m1 m2 K w' (tJ.grow hb) (uc.grow hb) hK hx hy;have vwF:Y0 (∀w',Below w.heap.size w w'→Calls Tryz.prog 270 #[s1,s2] w' (Ke m1 m2 w')):=fun w' hb=>S4 s1 s2 m1 m2 w' (tJ.grow hb) (uc.grow hb);have HT1:Y0 (∀w',Below w.heap.size w w'→m2≤m1→Calls Tryz.prog 271 #[s1,s2] w' (MakesW (m1-m2) w')):=fun w' hb iD=>wE s1 s2 m1 m2 K w' (tJ.grow hb) (uc.grow hb) hK hx iD
 have r6:Y0 (∀w',Below w.heap.size w w'→m1≤m2→Calls Tryz.prog 271 #[s2,s1] w' (MakesW (m2-m1) w')):=fun w' hb iD=>wE s2 s1 m2 m1 K w' (uc.grow hb) (tJ.grow hb) hK hy iD;have HZ:=zh (And.intro lP mX);obtain⟨⟨A,c,L,rfl,-,-,-,-⟩,-⟩:=tJ;obtain⟨⟨A',c',M,rfl,-,-,-,-⟩,-⟩:=uc;have mJ:=zh (cu w 221 221 221 #[.bool n1,.slice A L.length c] #[.bool n2,.slice A' M.length c'] #[.bool false,.slice none 0 0]);clear e1 e2 hx hy lP mX hK
 by_cases hn:n1=n2
 ·subst hn;have hd:(n1==n1)=true:=beq_self_eq_true _;go_enter Tryz.func241,Tryz.ntmps241;go_wp2_with fail;generalize ((w.alloc (.cells #[.bool n1,.slice A L.length c] 221)).alloc (.cells #[.bool n1,.slice A' M.length c'] 221)).alloc (.cells #[.bool false,.slice none 0 0] 221)=W3 at*;obtain⟨B1,B2,B3,bE⟩:=mJ.o;have B3:=zh B3;have bE:=zh bE;have gT:=B1.cell 0;have jz:=B1.cell 1;have iJ:=B2.cell 1;simp only[aB,aD,aA] at gT jz iJ
  have sR:=YL gT;have tB:=YL jz;have tR:=YL iJ;clear B1 B2 gT jz iJ mJ;refine af 7 (fun i=>if i=6 then some (gW (m1+m2)) else none) (by kernel_rfl) (by kernel_rfl) ?_;simp only[aO,aR,aP,aQ];refine zw 6 ?_;simp only[aO,aR,aP,aQ]
  repeat (go_big_quiet_step (fail))
  refine YE ?_;refine ae rfl rfl ?_ ?_
  ·intro w1 ak _;refine⟨269,#[.slice A L.length c,.slice A' M.length c'],by go_simp,?_⟩;exact MakesW.g (HAdd.o w1 (bE.o.trans (ak.mono bE.o.size)))
  rintro v1 ⟨A5,l5,c5,rfl⟩;simp only[Act.put,aw,av,au];refine Zc ?_;intro w5 bf hF;have RA:WAt w5 (.slice A5 l5 c5) (m1+m2):=hF 16;have SX:=zh RA;clear RA;have eJ:=zh (B3.o.below bf B3.o.lt);have dJ:=zh (bE.o.trans (bf.mono bE.o.size));have Qn:=eJ.o.cell 0;have Qm:=eJ.o.cell 1;have f30:=eJ.o.frozen 0;have f31:=eJ.o.frozen 1;simp only[aB,aD,aA] at Qn Qm;clear hF sR tB tR bf B3 bE;go_wp2_with fail;refine YF (v:=.agg #[.bool n1,.slice A5 l5 c5]) (by simp[results,Tryz.results241,go_sem,Qn,Qm]) rfl ?_
  have hN:NumAt w5 (.agg #[.bool n1,.slice A5 l5 c5]) (x+y):=⟨n1,_,m1+m2,rfl,SX.o,by rw[HZ.o.1,HZ.o.2];cases n1 <;> simp <;> omega⟩;exact⟨(dJ.o.setCell (p:=⟨w.heap.size+1+1,0,none⟩) (show w.heap.size≤w.heap.size+1+1 by omega) _).setCell (p:=⟨w.heap.size+1+1,1,none⟩) (show w.heap.size≤w.heap.size+1+1 by omega) _,_,rfl,(hN.setBox eJ.o (by decide) 0 _).setBox (eJ.o.set_ 0 _) (by decide) 1 _⟩
 have hd:(n1==n2)=false:=zb hn;go_enter Tryz.func241,Tryz.ntmps241;go_wp2_with fail;generalize ((w.alloc (.cells #[.bool n1,.slice A L.length c] 221)).alloc (.cells #[.bool n2,.slice A' M.length c'] 221)).alloc (.cells #[.bool false,.slice none 0 0] 221)=W3 at*;obtain⟨B1,B2,B3,bE⟩:=mJ.o;have B3:=zh B3;have bE:=zh bE;have gT:=B1.cell 0;have jz:=B1.cell 1;have jb:=B2.cell 0;have iJ:=B2.cell 1;simp only[aB,aD,aA] at gT jz jb iJ
 clear B1 B2 mJ;go_wp2_with fail;refine (vwF.o W3 bE.o).mono ?_;rintro e w7 ⟨⟨q7,rfl⟩,r7,rfl,J0,-⟩;have sR:=fun x:HeldB (W3.drewN q7)=>YL (W:=W3.drewN q7) gT x;have tB:=fun x:HeldB (W3.drewN q7)=>YL (W:=W3.drewN q7) jz x;have wQ:=fun x:HeldB (W3.drewN q7)=>YL (W:=W3.drewN q7) jb x;have tR:=fun x:HeldB (W3.drewN q7)=>YL (W:=W3.drewN q7) iJ x;clear gT jz jb iJ;by_cases aI:m1<m2
 ·have mA:decide (r7<0)=true:=by rw[J0];exact yD aI
  have HL:=zh (YG aI);clear aI J0;go_wp2_with fail;refine af 7 (fun i=>if i=6 then some (gW (m2-m1)) else none) (by kernel_rfl) (by kernel_rfl) ?_;simp only[aO,aR,aP,aQ];refine zw 6 ?_;simp only[aO,aR,aP,aQ]
  repeat (go_big_quiet_step (fail))
  refine YE ?_;refine ae rfl rfl ?_ ?_
  ·intro w1 ak _;refine⟨271,#[.slice A' M.length c',.slice A L.length c],by go_simp,?_⟩;exact MakesW.g (r6.o w1 (bE.o.trans ((Zf (yB _ _) q7).trans ak |>.mono bE.o.size)) HL.o)
  rintro v1 ⟨A5,l5,c5,rfl⟩;simp only[Act.put,aw,av,au];refine Zc ?_;intro w5 bf hF;have RA:WAt w5 (.slice A5 l5 c5) (m2-m1):=hF 30;have SX:=zh RA;clear RA;have bf:Below W3.heap.size W3 w5:=(Zf (yB _ _) q7).trans bf;have eJ:=zh (B3.o.below bf B3.o.lt);have dJ:=zh (bE.o.trans (bf.mono bE.o.size));have Qn:=eJ.o.cell 0;have Qm:=eJ.o.cell 1;have f30:=eJ.o.frozen 0;have f31:=eJ.o.frozen 1;simp only[aB,aD,aA] at Qn Qm
  clear hF sR tB wQ tR bf B3 bE;go_wp2_with fail;refine YF (v:=.agg #[.bool n2,.slice A5 l5 c5]) (by simp[results,Tryz.results241,go_sem,Qn,Qm]) rfl ?_;have hN:NumAt w5 (.agg #[.bool n2,.slice A5 l5 c5]) (x+y):=⟨n2,_,m2-m1,rfl,SX.o,by have:=HL.o;rw[HZ.o.1,HZ.o.2];cases n1 <;> cases n2 <;> simp at hn <;> simp <;> omega⟩;exact⟨(dJ.o.setCell (p:=⟨w.heap.size+1+1,0,none⟩) (show w.heap.size≤w.heap.size+1+1 by omega) _).setCell (p:=⟨w.heap.size+1+1,1,none⟩) (show w.heap.size≤w.heap.size+1+1 by omega) _,_,rfl,(hN.setBox eJ.o (by decide) 0 _).setBox (eJ.o.set_ 0 _) (by decide) 1 _⟩
 have mA:decide (r7<0)=false:=by rw[J0];exact yC aI
 have HL:=zh (Nat.not_lt.1 aI);clear aI J0;go_wp2_with fail;refine af 7 (fun i=>if i=6 then some (gW (m1-m2)) else none) (by kernel_rfl) (by kernel_rfl) ?_;simp only[aO,aR,aP,aQ];refine zw 6 ?_;simp only[aO,aR,aP,aQ]
 repeat (go_big_quiet_step (fail))
 refine YE ?_;refine ae rfl rfl ?_ ?_
 ·intro w1 ak _;refine⟨271,#[.slice A L.length c,.slice A' M.length c'],by go_simp,?_⟩;exact MakesW.g (HT1.o w1 (bE.o.trans ((Zf (yB _ _) q7).trans ak |>.mono bE.o.size)) HL.o)
 rintro v1 ⟨A5,l5,c5,rfl⟩;simp only[Act.put,aw,av,au];refine Zc ?_;intro w5 bf hF;have RA:WAt w5 (.slice A5 l5 c5) (m1-m2):=hF 38;have SX:=zh RA;clear RA;have bf:Below W3.heap.size W3 w5:=(Zf (yB _ _) q7).trans bf;have eJ:=zh (B3.o.below bf B3.o.lt);have dJ:=zh (bE.o.trans (bf.mono bE.o.size));have Qn:=eJ.o.cell 0;have Qm:=eJ.o.cell 1;have f30:=eJ.o.frozen 0;have f31:=eJ.o.frozen 1;simp only[aB,aD,aA] at Qn Qm
 clear hF sR tB wQ tR bf B3 bE;go_wp2_with fail;refine YF (v:=.agg #[.bool n1,.slice A5 l5 c5]) (by simp[results,Tryz.results241,go_sem,Qn,Qm]) rfl ?_;have hN:NumAt w5 (.agg #[.bool n1,.slice A5 l5 c5]) (x+y):=⟨n1,_,m1-m2,rfl,SX.o,by have:=HL.o;rw[HZ.o.1,HZ.o.2];cases n1 <;> cases n2 <;> simp at hn <;> simp <;> omega⟩;exact⟨(dJ.o.setCell (p:=⟨w.heap.size+1+1,0,none⟩) (show w.heap.size≤w.heap.size+1+1 by omega) _).setCell (p:=⟨w.heap.size+1+1,1,none⟩) (show w.heap.size≤w.heap.size+1+1 by omega) _,_,rfl,(hN.setBox eJ.o (by decide) 0 _).setBox (eJ.o.set_ 0 _) (by decide) 1 _⟩
theorem Km (m:Nat) (h:m<18446744073709551616):wv [m%4294967296,m/4294967296]=m∧Wok [m%4294967296,m/4294967296]:=by
 refine⟨?_,fun x hx=>?_⟩
 ·show 0+4294967296^0*(m%4294967296)+4294967296^1*(m/4294967296)=m;omega
 simp at hx;omega
theorem OwnW.two (w:World) (a b:Nat):OwnW (w.alloc (.cells #[.int .u32 (a:Int),.int .u32 (b:Int)] 232)) w.heap.size 2 [a,b] :=
 ⟨rfl,.inr ⟨w.heap.size,2,_,rfl,yA _,Blk.new w 232 _,yA _,by unfold maxLen;omega,rfl,rfl⟩⟩
theorem DR (n:Int) (w:World) (h0 : -4611686018427387904≤n) (h1:n≤4611686018427387904):Calls Tryz.prog 238 #[.int .i64 n] w (MakesN n w):=by
  obtain⟨m,hm⟩:=zo (n.natAbs);obtain⟨hw1,QS⟩:=Km m (by omega);have VK:=zh hw1;have HW2:=zh QS;have HO:=zh (OwnW.two (w.alloc (.cells #[.bool false,.slice none 0 0] 221)) (m%4294967296) (m/4294967296));have HD:=zh ((Blk.new w 221 #[.bool false,.slice none 0 0]).alloc (.cells #[.int .u32 ((m%4294967296:Nat):Int),.int .u32 ((m/4294967296:Nat):Int)] 232));have HB:=zh (((yB _ w).alloc (yA _) (.cells #[.bool false,.slice none 0 0] 221)).alloc (by simp) (.cells #[.int .u32 ((m%4294967296:Nat):Int),.int .u32 ((m/4294967296:Nat):Int)] 232))
  have qkv:(w.alloc (.cells #[.bool false,.slice none 0 0] 221)).heap.size=w.heap.size+1:=by simp
  rw[qkv] at HO;clear qkv;have hT:=sJ (some ⟨w.heap.size+1,0,none⟩) 2 _ [m%4294967296,m/4294967296] _ HO.o.at_;have HT:Y0 (Calls Tryz.prog 266 #[.slice (some ⟨w.heap.size+1,0,none⟩) 2 2] ((w.alloc (.cells #[.bool false,.slice none 0 0] 221)).alloc (.cells #[.int .u32 ((m%4294967296:Nat):Int),.int .u32 ((m/4294967296:Nat):Int)] 232)) _):=hT;clear hw1 QS hT;by_cases hn:n<0
  case' pos=>
    have hd:decide (n<0)=true:=yD hn;have HA:Y0 (IntKind.u64.wrap (-IntKind.u64.wrap n)%4294967296=((m%4294967296:Nat):Int)):=by
      unfold Y0;simp only[IntKind.wrap,IntKind.bits,IntKind.signed];omega
    have HC:Y0 (IntKind.u64.wrap (-IntKind.u64.wrap n)/4294967296%4294967296=((m/4294967296:Nat):Int)):=by
      unfold Y0;simp only[IntKind.wrap,IntKind.bits,IntKind.signed];omega
    have HZ:Y0 (n=-(m:Int)):=by unfold Y0;omega
    clear hm;go_enter Tryz.func238,Tryz.ntmps238;go_wp2_with fail;rw[HA.o,HC.o]
  case' neg=>
    have hd:decide (n<0)=false:=yC hn;have HA:Y0 (n%4294967296=((m%4294967296:Nat):Int)):=by unfold Y0;omega
    have HC:Y0 (n/4294967296=((m/4294967296:Nat):Int)):=by unfold Y0;omega
    have HZ:Y0 (n=(m:Int)):=by unfold Y0;omega
    clear hm;go_enter Tryz.func238,Tryz.ntmps238;go_wp2_with fail;rw[HA.o,HC.o]
  all_goals
    refine HT.o.mono ?_;rintro e w' ⟨rfl,rfl⟩;obtain⟨ht1,ht2,ht3⟩:=iO [m%4294967296,m/4294967296];have HT1:=zh ht1;have r6:=zh ht2;have HT3:=zh ht3;generalize (w.alloc (.cells #[.bool false,.slice none 0 0] 221)).alloc (.cells #[.int .u32 ((m%4294967296:Nat):Int),.int .u32 ((m/4294967296:Nat):Int)] 232)=W at*;generalize gg [m%4294967296,m/4294967296]=k at*;have q0:=HD.o.cell 0;have q1:=HD.o.cell 1
    have f0:=HD.o.frozen 0;have f1:=HD.o.frozen 1;simp only[aB,aD,aA] at q0 q1;clear ht1 ht2 ht3 HT;go_wp2_with fail;have hW:WAt W (.slice (some ⟨w.heap.size+1,0,none⟩) k 2) m:=WAt.of_trim HO.o HW2.o HT1.o r6.o (HT3.o.trans VK.o);have hB:=(HB.o.setCell (p:=⟨w.heap.size,0,none⟩) (yA _) (.bool (decide (n<0)))).setCell (p:=⟨w.heap.size,1,none⟩) (yA _) (.slice (some ⟨w.heap.size+1,0,none⟩) k 2);have hN:NumAt W (.agg #[.bool (decide (n<0)),.slice (some ⟨w.heap.size+1,0,none⟩) k 2]) n:=⟨_,_,m,rfl,hW,by rw[hd];exact HZ.o⟩
    have rJ:=(hN.setBox HD.o (by decide) 0 (.bool (decide (n<0)))).setBox (HD.o.set_ 0 _) (by decide) 1 (.slice (some ⟨w.heap.size+1,0,none⟩) k 2);rw[hd] at hB rJ
    first
      | (refine YF (v := .agg #[.bool true,.slice (some ⟨w.heap.size + 1,0,none⟩) k 2]) (by simp[results,Tryz.results238,go_sem,q0,q1]) rfl ?_
         exact⟨hB,_,rfl,rJ⟩)
      | (refine YF (v := .agg #[.bool false,.slice (some ⟨w.heap.size + 1,0,none⟩) k 2]) (by simp[results,Tryz.results238,go_sem,q0,q1]) rfl ?_
         exact⟨hB,_,rfl,rJ⟩)
