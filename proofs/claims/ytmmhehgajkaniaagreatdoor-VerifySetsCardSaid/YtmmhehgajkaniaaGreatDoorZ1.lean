/- Lemmas. -/
import Derived.Test.YtmmhehgajkaniaaGreatDoorZ0
namespace Go.Proofs.YtmmhehgajkaniaaGreatDoor
set_option maxRecDepth 100000
set_option maxHeartbeats 40000000
def aw (f:Nat→Nat):Nat→Nat
 | 0=>0
 | k+1=>aw f k+4294967296^k*f k
def aQ (L:List Nat) (i:Nat):Nat:=L.getD i 0
def wv (L:List Nat):Nat:=aw (aQ L) L.length
def Wok (L:List Nat):Prop:=∀x∈L,x<4294967296
def Dn (L:List Nat):Prop:=L≠[]→aQ L (L.length-1)≠0
theorem rH (k:Nat):0<4294967296^k:=Nat.pow_pos (by decide)
theorem cu {L:List Nat} {i:Nat} (h:i<L.length):aQ L i=L[i]:=by unfold aQ;rw[List.getD_eq_getElem?_getD,List.getElem?_eq_getElem h];rfl
theorem fZ {L:List Nat} {i:Nat} (h:L.length≤i):aQ L i=0:=by unfold aQ;rw[List.getD_eq_getElem?_getD,List.getElem?_eq_none h];rfl
theorem gQ {L:List Nat} (h:Wok L) (i:Nat):aQ L i<4294967296:=by
 by_cases hi:i<L.length
 ·rw[cu hi];exact h _ (yV hi)
 rw[fZ (by omega)];decide
theorem jW {f g:Nat→Nat}:∀ {k:Nat},(∀i,i < k→f i=g i)→aw f k=aw g k
 | 0,_=>rfl
 | k+1,h=>by
  show aw f k+_=aw g k+_;rw[jW (k:=k) fun i hi=>h i (by omega),h k (by omega)]
theorem m5 {f:Nat→Nat} (h:∀i,f i < 4294967296):∀k,aw f k < 4294967296^k
 | 0=>Nat.one_pos
 | k+1=>by
  have ih:=m5 h k;have hk:=h k;have h1:4294967296^k*f k≤4294967296^k*4294967295:=Nat.mul_le_mul_left _ (by omega);show aw f k+4294967296^k*f k<4294967296^(k+1);rw[yW];omega
theorem sS {f:Nat→Nat} {k:Nat} (h:∀i,k ≤ i→f i=0):∀m,k ≤ m→aw f m=aw f k
 | 0,hm=>by rw[show k=0 by omega]
 | m+1,hm=>by
  by_cases e:k=m+1
  ·rw[e]
  show aw f m+4294967296^m*f m=_;rw[h m (by omega),sS h m (by omega),Nat.mul_zero,Nat.add_zero]
theorem vu (L:List Nat) {m:Nat} (h:L.length≤m):aw (aQ L) m=wv L:=sS (fun _ hi=>fZ hi) m h
theorem PS {L:List Nat} (h:Wok L):wv L<4294967296^L.length:=m5 (gQ h) _
theorem Li (L:List Nat) (k:Nat) (hk:k≤L.length):wv (L.take k)=aw (aQ L) k:=by
 unfold wv;rw[YA,Nat.min_eq_left hk];refine jW fun i hi=>?_;rw[cu (by simp;omega),cu (by omega)];simp
theorem Wok.take {L:List Nat} (h:Wok L) (k:Nat):Wok (L.take k):=fun x hx=>h x (List.mem_of_mem_take hx)
theorem PT {L:List Nat} {k:Nat} (hk:k<L.length) (h:aQ L k=0):wv (L.take (k+1))=wv (L.take k):=by
 rw[Li L (k+1) (by omega),Li L k (by omega)];show aw _ k+4294967296^k*aQ L k=_;rw[h,Nat.mul_zero,Nat.add_zero]
theorem Lj {L:List Nat} (ht:Dn L) (h:L≠[]):4294967296^(L.length-1)≤wv L:=by
 have h1:=ht h;have hl:L.length≠0:=fun e=>h (List.length_eq_zero_iff.1 e);have e:wv L=aw (aQ L) (L.length-1)+4294967296^(L.length-1)*aQ L (L.length-1):=by
  unfold wv
  conv=>lhs;rw[show L.length=L.length-1+1 by omega]
  rfl
 have h2:4294967296^(L.length-1)*1≤4294967296^(L.length-1)*aQ L (L.length-1):=Nat.mul_le_mul_left _ (by omega);omega
theorem Lh {L:List Nat} (ht:Dn L):wv L=0↔L=[]:=by
 refine⟨fun h=>?_,fun h=>by rw[h];rfl⟩;by_cases e:L=[]
 ·exact e
 have:=Lj ht e
 have:=rH (L.length-1);omega
theorem Ij {L M:List Nat} (hL:Wok L) (hM:Dn M) (h:L.length<M.length):wv L<wv M:=by
 have h1:=PS hL;have dL:M≠[]:=fun e=>by rw[e] at h;simp at h
 have h2:=Lj hM dL;have h3:4294967296^L.length≤4294967296^(M.length-1):=Nat.pow_le_pow_right (by decide) (by omega);omega
theorem jV {L:List Nat} (ht:Dn L) {k:Nat} (h:wv L<4294967296^k):L.length≤k:=by
 by_cases e:L=[]
 ·rw[e];simp
 have h1:=Lj ht e;have hl:L.length≠0:=fun e'=>e (List.length_eq_zero_iff.1 e');by_cases hk:L.length≤k
 ·exact hk
 have h3:4294967296^k≤4294967296^(L.length-1):=Nat.pow_le_pow_right (by decide) (by omega);omega
theorem wm {f g:Nat→Nat} (hf:∀i,f i < 4294967296) {i:Nat}:∀n,i < n→(∀j,i < j→j < n→f j=g j)→f i < g i→aw f n < aw g n
 | 0,h,_,_=>by omega
 | n+1,h,he,ao=>by
  show aw f n+4294967296^n*f n<aw g n+4294967296^n*g n;by_cases e:i=n
  ·subst e;have h1:=m5 hf i;have h2:4294967296^i*(f i+1)≤4294967296^i*g i:=Nat.mul_le_mul_left _ (by omega);rw[yX] at h2;omega
  have ih:=wm hf n (by omega) (fun j h1 h2=>he j h1 (by omega)) ao;rw[he n (by omega) (by omega)];omega
theorem iU {L:List Nat} {i j x:Nat} (hi:i<L.length):aQ (L.set i x) j=if j=i then x else aQ L j:=by
 unfold aQ;rw[yN,yN,List.getElem?_set];by_cases e:i=j
 ·subst e;simp[hi]
 rw[if_neg e,if_neg (fun h=>e h.symm)]
theorem kI {L:List Nat} {i x:Nat} (hi:i<L.length):∀k,k≤i→aw (aQ (L.set i x)) k=aw (aQ L) k:=fun k hk=>
 jW fun j hj=>by rw[iU hi,if_neg (by omega)]
theorem nR {L:List Nat} {i x:Nat} (hi:i < L.length):∀k,i < k→aw (aQ (L.set i x)) k + 4294967296^i * aQ L i=aw (aQ L) k + 4294967296^i * x
 | 0,h=>by omega
 | k+1,h=>by
  show aw (aQ (L.set i x)) k+4294967296^k*aQ (L.set i x) k+_=aw (aQ L) k+4294967296^k*aQ L k+_;by_cases e:i=k
  ·subst e;rw[kI hi i (yA _),iU hi,if_pos rfl];omega
  have ih:=nR (x:=x) hi k (by omega);rw[iU hi,if_neg (by omega)];omega
theorem Wok.set {L:List Nat} (h:Wok L) (i:Nat) {x:Nat} (hx:x<4294967296):Wok (L.set i x):=fun y hy=>by
 rcases List.mem_or_eq_of_mem_set hy with h1|h1
 ·exact h y h1
 omega
theorem Wok.zeros (n:Nat):Wok (List.replicate n 0):=fun x hx=>by rw[List.eq_of_mem_replicate hx];decide
theorem sW (n i:Nat):aQ (List.replicate n 0) i=0:=by
 by_cases h:i<n
 ·rw[cu (by simpa using h)];simp
 exact fZ (by simpa using h)
theorem wk (n:Nat):∀k,aw (aQ (List.replicate n 0)) k=0
 | 0=>rfl
 | k+1=>by
  show aw _ k+4294967296^k*aQ _ k=0;rw[sW,wk n k,Nat.mul_zero]
theorem Wn {P s x y c:Nat} {P':Nat} (hP:P'=P*4294967296) (h:s+P*c=x+y) (a b:Nat):s+P*((a+b+c)%4294967296)+P'*((a+b+c)/4294967296)=x+P*a+(y+P*b):=by
 have e:=YI (a+b+c) 4294967296;have h1:P*((a+b+c)%4294967296)+P'*((a+b+c)/4294967296)=P*(a+b+c):=by
  rw[hP,yY,←yX];congr 1
  omega
 have h2:P*(a+b+c)=P*a+P*b+P*c:=by rw[yX,yX]
 omega
theorem Qn {P s x y c P' a b d c':Nat} (hP:P'=P*4294967296) (h:s+y=x+P*c) (hd:a+c'*4294967296=d+b+c):s+P*d+(y+P*b)=x+P*a+P'*c':=by
 have h1:P*a+P'*c'=P*d+P*b+P*c:=by
  rw[hP,yY,←yX,Nat.mul_comm 4294967296 c',hd,yX,yX]
 omega
theorem NI {x y o c:Nat} (hx:x<4294967296) (hy:y<4294967296) (ho:o<4294967296) (hc:c<4294967296):x*y+o+c<18446744073709551616∧(x*y+o+c)/4294967296<4294967296:=by
 have h1:x*y≤4294967295*4294967295:=Nat.mul_le_mul (by omega) (by omega);omega
theorem Ol {P s x a b z P':Nat} (hP:P'=P*4294967296) (h:2*s+z=x+P*(a%2)):2*(s+P*(a/2+2147483648*(b%2)))+z=x+P*a+P'*(b%2):=by
 have e:=YI a 2;have h1:P*a=P*(2*(a/2))+P*(a%2):=by rw[←yX,e]
 have h2:P'*(b%2)=P*(4294967296*(b%2)):=by rw[hP,yY]
 have h3:2*(P*(a/2+2147483648*(b%2)))=P*(2*(a/2))+P*(4294967296*(b%2)):=by
  rw[←yX,Nat.mul_left_comm];congr 1
  omega
 rw[yX,h3,h2,h1];omega
theorem Dm {X Y:Nat→Nat} {O:List Nat} {k cy z:Nat} (hk:k<O.length) (h:aw (aQ O) k+4294967296^k*cy=aw X k+aw Y k) (hz:z=X k+Y k+cy) :
  aw (aQ (O.set k (z%4294967296))) (k+1)+4294967296^(k+1)*(z/4294967296)=aw X (k+1)+aw Y (k+1):=by
 have e:aw (aQ (O.set k (z%4294967296))) (k+1)=aw (aQ O) k+4294967296^k*(z%4294967296):=by
  show aw _ k+4294967296^k*aQ _ k=_;rw[kI hk k (yA _),iU hk,if_pos rfl]
 rw[e,hz];exact Wn (yW _ _) h (X k) (Y k)
theorem ZS {X Y O:List Nat} {cy:Nat} (hX:Wok X) (hY:Wok Y) (hO:O.length=X.length + 1) (Up:Y.length ≤ X.length)
  (h:aw (aQ O) (X.length+1)+4294967296^(X.length+1)*cy=aw (aQ X) (X.length+1)+aw (aQ Y) (X.length+1)):wv O=wv X+wv Y:=by
 have h2:=m5 (gQ hX) X.length;have h3:=m5 (gQ hY) X.length;have h4:aw (aQ X) (X.length+1)=aw (aQ X) X.length:=sS (fun i hi=>fZ hi) _ (by omega);have h5:aw (aQ Y) (X.length+1)=aw (aQ Y) X.length:=by rw[vu Y (by omega),vu Y Up]
 have h6:wv Y=aw (aQ Y) X.length:=(vu Y Up).symm;have h7:wv O=aw (aQ O) (X.length+1):=by unfold wv;rw[hO]
 have h9:wv X=aw (aQ X) X.length:=rfl;rw[h7,h6,h9];rw[h4,h5,yW,yY] at h;clear h4 h5 h6 h7 h9 hX hY hO;generalize 4294967296^X.length=P at*;generalize aw (aQ X) X.length=x at*;generalize aw (aQ Y) X.length=y at*;generalize aw (aQ O) (X.length+1)=o at*;rcases Nat.lt_or_ge cy 1 with hc|hc
 ·obtain rfl:cy=0:=by omega
  simpa using h
 have DI:P*2≤P*(4294967296*cy):=Nat.mul_le_mul_left _ (by omega);omega
theorem vB {X Y:Nat→Nat} {O:List Nat} {k cy d c':Nat} (hk:k<O.length) (h:aw (aQ O) k+aw Y k=aw X k+4294967296^k*cy) (hd:X k+c'*4294967296=d+Y k+cy) :
  aw (aQ (O.set k d)) (k+1)+aw Y (k+1)=aw X (k+1)+4294967296^(k+1)*c':=by
 have e:aw (aQ (O.set k d)) (k+1)=aw (aQ O) k+4294967296^k*d:=by
  show aw _ k+4294967296^k*aQ _ k=_;rw[kI hk k (yA _),iU hk,if_pos rfl]
 rw[e];exact Qn (yW _ _) h hd
theorem XD {X Y O:List Nat} {cy:Nat} (hO:Wok O) (hl:O.length=X.length) (Up:Y.length ≤ X.length) (ko:wv Y ≤ wv X)
  (h:aw (aQ O) X.length+aw (aQ Y) X.length=aw (aQ X) X.length+4294967296^X.length*cy):wv O=wv X-wv Y:=by
 have h2:=m5 (gQ hO) X.length;have h6:aw (aQ Y) X.length=wv Y:=vu Y Up;have h7:aw (aQ O) X.length=wv O:=by unfold wv;rw[hl]
 have h9:aw (aQ X) X.length=wv X:=rfl;rw[h6,h7,h9] at h;rw[h7] at h2;clear h6 h7 h9 hO hl Up;generalize 4294967296^X.length=P at*;generalize wv X=x at*;generalize wv Y=y at*;generalize wv O=o at*;rcases Nat.lt_or_ge cy 1 with hc|hc
 ·obtain rfl:cy=0:=by omega
  rw[Nat.mul_zero] at h;omega
 have DI:P*1≤P*cy:=Nat.mul_le_mul_left _ hc;omega
def jr (L:List Nat):Nat→Nat
 | 0=>0
 | k+1=>if aQ L k=0 then jr L k else k+1
def gi (L:List Nat):Nat:=jr L L.length
theorem ru (L:List Nat):∀k,k ≤ L.length→jr L k ≤ k ∧ Dn (L.take (jr L k)) ∧ wv (L.take (jr L k))=wv (L.take k)
 | 0,_=>⟨yA _,by simp[jr,Dn],rfl⟩
 | k+1,hk=>by
  obtain⟨h1,h2,h3⟩:=ru L k (by omega);by_cases e:aQ L k=0
  ·rw[jr,if_pos e];exact⟨by omega,h2,h3.trans (PT (by omega) e).symm⟩
  rw[jr,if_neg e];refine⟨yA _,fun _=>?_,rfl⟩;have hl:(L.take (k+1)).length=k+1:=by rw[YA];omega
  rw[hl,Nat.add_sub_cancel,cu (by omega),List.getElem_take];rwa [cu (by omega)] at e
theorem iH (L:List Nat):gi L≤L.length∧Dn (L.take (gi L))∧wv (L.take (gi L))=wv L:=by
 have h:=ru L L.length (yA _);rwa [yT] at h
theorem FN {X:Nat→Nat} {O:List Nat} {k z:Nat} (hk:k<O.length) (h:2*aw (aQ O) k+z=aw X k+4294967296^k*(X k%2)) :
  2*aw (aQ (O.set k (X k/2+2147483648*(X (k+1)%2)))) (k+1)+z=aw X (k+1)+4294967296^(k+1)*(X (k+1)%2):=by
 have e:aw (aQ (O.set k (X k/2+2147483648*(X (k+1)%2)))) (k+1)=aw (aQ O) k+4294967296^k*(X k/2+2147483648*(X (k+1)%2)):=by
  show aw _ k+4294967296^k*aQ _ k=_;rw[kI hk k (yA _),iU hk,if_pos rfl]
 rw[e];exact Ol (yW _ _) h
theorem UL {X O:List Nat} (hl:O.length=X.length) (h:2*aw (aQ O) X.length+aQ X 0%2=aw (aQ X) X.length+4294967296^X.length*(aQ X X.length%2)):wv O=wv X/2:=by
 have h1:aQ X X.length=0:=fZ (yA _);have h2:wv O=aw (aQ O) X.length:=by unfold wv;rw[hl]
 have h3:wv X=aw (aQ X) X.length:=rfl;rw[h1,Nat.zero_mod,Nat.mul_zero,←h2,←h3] at h;omega
open Go.RowKit Go.Shelf
def pU (n:Nat):Value:=.int .u32 (n:Int)
abbrev Wo:=@RowAt Nat pU
theorem XG {α:Type} {enc:α→Value} {w:World} {B n c:Nat} {A:Option Addr} {l:List α} (h:RowAt enc w B (.slice A n c) l) (k:Nat) (hk:k≤l.length):RowAt enc w B (.slice A k c) (l.take k):=by
 obtain⟨A',c',e,h1,h2,h3⟩:=h;injection e with e1 e2 e3;subst e1 e3;have hl:(l.take k).length=k:=by rw[YA];omega
 refine⟨A,c,by rw[hl],by omega,h2,fun h0=>?_⟩;obtain⟨b,off,e4,h5,h6⟩:=h3 (by omega);refine⟨b,off,e4,h5,fun j u hu=>h6 j u ?_⟩;rw[List.map_take,List.getElem?_take] at hu;split at hu
 ·exact hu
 cases hu
def lenOf:Value→Nat
 | .slice _ n _=>n
 | _=>0
theorem tM (A:Option Addr) (c B:Nat) (L:List Nat) (w:World) (hl:Wo w B (.slice A L.length c) L) :
  Calls Tryz.prog 188 #[.slice A L.length c] w fun e w'=>e=.returned (.slice A (gi L) c)∧w=w':=by
 obtain⟨A',c',e,fU,cM,aj⟩:=hl.open_;injection e with e1 _ e2;subst e1 e2;unfold maxLen at cM;have HC:=zh aj;clear aj hl;go_enter Tryz.func188,Tryz.ntmps188;go_wp2_with fail;go_loopw [0] (fun x wr=>∃k:Nat,k≤L.length∧x=.slice A k c∧Y0 (gi L=jr L k)∧w=wr) (fun x _=>lenOf x)
 case atStart=>exact⟨L.length,yA _,rfl,rfl,rfl⟩
 obtain⟨k,hk,rfl,HV,rfl⟩:=hrel
 cases k with
 | zero=>
  go_wp2_with fail;go_ret;exact⟨by rw[HV.o];rfl,rfl⟩
 | succ m=>
  obtain⟨b,off,rfl,hb,eG⟩:=HC.o m (by omega);have h0:=eG m (by omega);unfold pU at h0;clear eG;by_cases hz:L[m]=0
  ·have ck:Y0 (gi L=jr L m):=by
    unfold Y0;rw[HV.o,jr,if_pos (by rw[cu (by omega)];exact hz)]
   clear HV;go_wp2_with fail;go_roundw
   case rel=>exact⟨m,by omega,rfl,ck,by trivial⟩
   exact Nat.lt_succ_self m
  have ck:Y0 (gi L=m+1):=by
   unfold Y0;rw[HV.o,jr,if_neg (by rw[cu (by omega)];exact hz)]
  clear HV;go_wp2_with fail;go_ret;exact⟨by rw[ck.o];rfl,rfl⟩
def TyW (w:World) (t:TypeId) (v:Value):Prop:=∀g,v.ownBlock=some g→∃cs r,w.heap[g]?=some (.cells cs t r)
theorem TyW.grow {w w':World} {t:TypeId} {v:Value} (h:TyW w t v) (hb:Below w.heap.size w w'):TyW w' t v:=fun g hg=>by
 obtain⟨cs,r,e⟩:=h g hg;exact⟨cs,r,(hb.block g (Array.getElem?_eq_some_iff.1 e).1).trans e⟩
theorem TyW.kept {w w':World} {t:TypeId} {v:Value} {row:Option Nat} (h:TyW w t v) (hg:w.grownBy w' row) (hr:∀g,row=some g→v.ownBlock≠some g):TyW w' t v:=fun g e=>by
 obtain⟨cs,r,e1⟩:=h g e;exact⟨cs,r,(hg.block g (Array.getElem?_eq_some_iff.1 e1).1 (fun e2=>hr g e2.symm e)).trans e1⟩
def WAt (w:World) (v:Value) (z:Nat):Prop:=(∃A c L,v=.slice A L.length c∧Wo w w.heap.size v L∧Wok L∧Dn L∧wv L=z)∧TyW w 205 v
theorem WAt.grow {w w':World} {v:Value} {z:Nat} (h:WAt w v z) (hb:Below w.heap.size w w'):WAt w' v z:=by
 obtain⟨⟨A,c,L,h1,h2,h3,h4,h5⟩,ht⟩:=h;exact⟨⟨A,c,L,h1,(h2.below hb (yA _)).mono hb.size,h3,h4,h5⟩,ht.grow hb⟩
theorem WAt.drewN {w:World} {v:Value} {z:Nat} (h:WAt w v z) (q:Nat):WAt (w.drewN q) v z:=h
theorem WAt.nil (w:World):WAt w (.slice none 0 0) 0:=⟨⟨none,0,[],rfl,⟨none,0,rfl,yA _,yI _,fun h=>absurd h (by simp)⟩,fun x hx=>(by cases hx),fun h=>absurd rfl h,rfl⟩,fun g e=>by cases e⟩
theorem sw (w:World) (a b:Nat):(w.drewN a).drewN b=w.drewN (a+b):=by unfold World.drewN;simp[Nat.add_assoc]
def MX (a b:Nat) (w:World) (e:Ending) (w':World):Prop:=(∃q,w.drewN q=w')∧∃r:Int,e=.returned (.int .i64 r)∧decide (r<0)=decide (a<b)∧decide (0≤r)=decide (b≤a)
theorem VQ (v u:Value) (a b:Nat) (w:World) (hv:WAt w v a) (hu:WAt w u b):Calls Tryz.prog 192 #[v,u] w (MX a b w):=by
 obtain⟨A,c,L,rfl,hl,Ky,Kx,rfl⟩:=hv.1;obtain⟨A',c',M,rfl,hm,hMo,UR,rfl⟩:=hu.1;obtain⟨_,_,e,fU,cM,aj⟩:=hl.open_;injection e with e1 _ e2;subst e1 e2;obtain⟨_,_,e,pR,nH,oI⟩:=hm.open_;injection e with e1 _ e2;subst e1 e2;unfold maxLen at cM nH;have HC:=zh aj;have HD:=zh oI;have HLo:=zh Ky;have Dt:=zh hMo;have HLt:=zh Kx;have HMt:=zh UR;clear aj oI hl hm Ky Kx hMo UR;by_cases dL:L.length=M.length
 ·have HE:=zh dL;have eH:((L.length:Int) != (M.length:Int))=false:=by rw[dL];simp
  have ak:(L.length != M.length)=false:=by rw[dL];simp
  have i0:(L.length:Int)≤(M.length:Int):=by omega
  have i1:(M.length:Int)≤(L.length:Int):=by omega
  clear dL;go_enter Tryz.func192,Tryz.ntmps192;go_wp2_with fail;go_loopw [5] (fun x wr=>∃k:Nat,k≤L.length∧x=.int .i64 ((k:Int)-1)∧Y0 (∀j,k≤j→j<L.length→aQ L j=aQ M j)∧∃q,w.drewN q=wr) (fun x _=>(intOf x+1).toNat)
  case atStart=>exact⟨L.length,yA _,rfl,fun j h1 h2=>by omega,0,rfl⟩
  obtain⟨k,hk,rfl,HV,q,rfl⟩:=hrel
  cases k with
  | zero=>
   have HEq:Y0 (wv L=wv M):=by
    unfold Y0 wv;rw[←HE.o];exact jW fun i hi=>HV.o i (yI _) hi
   go_wp2_with fail;go_ret;exact⟨⟨q,rfl⟩,0,rfl,by rw[HEq.o];simp,by rw[HEq.o];simp⟩
  | succ m=>
   rw[show (((m+1:Nat):Int)-1)=(m:Int) by omega];obtain⟨b,off,rfl,hb,eG⟩:=HC.o m (by omega);have h0:=eG m (by omega);obtain⟨b',TH,rfl,ev,vxu⟩:=HD.o m (by have:=HE.o;omega);have h1:=vxu m (by have:=HE.o;omega);unfold pU at h0 h1;have k0:(0:Int)≤(m:Int):=yE _;have k1:(m:Int)<(L.length:Int):=by omega
   have k2:(m:Int)<(M.length:Int):=by have:=HE.o;omega
   have eL:aQ L m=L[m]:=cu (by omega);have eM:aQ M m=M[m]'(by have:=HE.o;omega):=cu (by have:=HE.o;omega);have EL:=zh eL;have EM:=zh eM;clear eG vxu hb ev eL eM;by_cases hq:aQ L m=aQ M m
   ·have hbn:((L[m]:Int) != (M[m]'(by have:=HE.o;omega):Int))=false:=by rw[←EL.o,←EM.o,hq];simp
    have vzK:(L[m] != (M[m]'(by have:=HE.o;omega)))=false:=by rw[←EL.o,←EM.o,hq];simp
    have ck:Y0 (∀j,m≤j→j<L.length→aQ L j=aQ M j):=fun j h1 h2=>by
     by_cases e:j=m
     ·rw[e];exact hq
     exact HV.o j (by omega) h2
    clear hq HV EL EM;go_wp2_with fail;go_quiet (fail);go_wp2_with fail;go_roundw
    case rel=>exact⟨m,by omega,rfl,ck,_,rfl⟩
    show ((m:Int)-1+1).toNat<((m:Int)+1).toNat;omega
   have hbn:((L[m]:Int) != (M[m]'(by have:=HE.o;omega):Int))=true:=by rw[←EL.o,←EM.o];simp;omega
   have vzK:(L[m] != (M[m]'(by have:=HE.o;omega)))=true:=by rw[←EL.o,←EM.o];simpa using hq
   have HAb:Y0 (∀j,m<j→j<L.length→aQ L j=aQ M j):=fun j h1 h2=>HV.o j (by omega) h2;by_cases ao:aQ L m<aQ M m
   ·have hd:decide (L[m]<(M[m]'(by have:=HE.o;omega)))=true:=by rw[←EL.o,←EM.o];exact yD ao
    have HR:Y0 (wv L<wv M):=by
     unfold Y0 wv;rw[←HE.o];exact wm (gQ HLo.o) L.length (by omega) HAb.o ao
    clear hq ao HV EL EM HAb;go_wp2_with fail;go_quiet (fail);go_wp2_with fail;go_quiet (fail);go_wp2_with fail;go_ret;exact⟨⟨_,(by rw[sw,sw])⟩,-1,rfl,by rw[yD HR.o];rfl,by rw[yC (Nat.not_le.2 HR.o)];rfl⟩
   have hd:decide (L[m]<(M[m]'(by have:=HE.o;omega)))=false:=by rw[←EL.o,←EM.o];exact yC ao
   have HR:Y0 (wv M<wv L):=by
    unfold Y0 wv;rw[←HE.o];exact wm (gQ Dt.o) L.length (by omega) (fun j h1 h2=>(HAb.o j h1 h2).symm) (by omega)
   clear hq ao HV EL EM HAb;go_wp2_with fail;go_quiet (fail);go_wp2_with fail;go_quiet (fail);go_wp2_with fail;go_ret;exact⟨⟨_,(by rw[sw,sw])⟩,1,rfl,by rw[yC (Nat.not_lt.2 (YG HR.o))];rfl,by rw[yD (YG HR.o)];rfl⟩
 have eH:((L.length:Int) != (M.length:Int))=true:=by simp;omega
 have ak:(L.length != M.length)=true:=by simpa using dL
 have HR:Y0 (decide ((L.length:Int)-(M.length:Int)<0)=decide (wv L<wv M)∧decide (0≤(L.length:Int)-(M.length:Int))=decide (wv M≤wv L)):=by
  by_cases h:L.length<M.length
  ·have h1:=Ij HLo.o HMt.o h;exact⟨by rw[yD h1];exact yD (by omega),by rw[yC (Nat.not_le.2 h1)];exact yC (by omega)⟩
  have h1:=Ij Dt.o HLt.o (show M.length<L.length by omega);exact⟨by rw[yC (show ¬wv L<wv M by omega)];exact yC (by omega),by rw[yD (YG h1)];exact yD (by omega)⟩
 clear dL;go_enter Tryz.func192,Tryz.ntmps192;go_wp2_with fail;go_ret;exact⟨⟨0,rfl⟩,_,rfl,HR.o.1,HR.o.2⟩
def OwnW (w:World) (g n:Nat) (L:List Nat):Prop:=w.ownsRow g 205 1 (.slice (some ⟨g,0,none⟩) n n) n (L.map pU)
section
variable {w w':World} {g n:Nat} {L:List Nat}
theorem OwnW.len (h:OwnW w g n L):L.length=n:=by have:=h.1;simp at this;omega
theorem OwnW.cell (h:OwnW w g n L) {i:Nat} (hi:i<n):w.cell? ⟨g,i,none⟩=some (.int .u32 (aQ L i:Nat)):=by
 have hl:=h.len;rw[World.ownsRow.cellAt h i (by omega),YC,yM (by omega),cu (by omega)];rfl
theorem OwnW.frozen (h:OwnW w g n L) (i:Nat):w.frozen? ⟨g,i,none⟩=false:=World.ownsRow.frozenAt h i
theorem OwnW.set_ (h:OwnW w g n L) (i x:Nat):OwnW (w.setCell ⟨g,i,none⟩ (.int .u32 (x:Nat))) g n (L.set i x):=by
 unfold OwnW;rw[List.map_set];exact (World.ownsRow.stored h i _).1
theorem OwnW.drewN (h:OwnW w g n L) (q:Nat):OwnW (w.drewN q) g n L:=fL h q
theorem OwnW.lt (h:OwnW w g n L):g<w.heap.size:=(World.ownsRow.lt h g rfl).2
theorem OwnW.below (h:OwnW w g n L) (hb:Below w.heap.size w w'):OwnW w' g n L:=World.ownsRow.kept h (gG (row:=none) hb) (by simp[Value.ownBlock])
theorem OwnW.at_ (h:OwnW w g n L):Wo w w.heap.size (.slice (some ⟨g,0,none⟩) L.length n) L:=by
 have:=h.len;subst this;exact RowAt.of_own h
end
theorem o7 (n:Nat):(madeCells (Value.cells (.int .u32 0)) (n*1)).toList=(List.replicate n 0).map pU:=by
 apply List.ext_getElem
 ·simp[size_madeCells]
 intro i h1 h2;simp[madeCells,Value.cells,Nat.mod_one,pU]
theorem o9:(Tryz.prog.info? 205).map (fun i=>(i.zero,i.size,i.bytes))=some (some (.int .u32 0),1,4):=by kernel_rfl
theorem WAt.of_trim {w:World} {g n:Nat} {L:List Nat} (h:OwnW w g n L) (ho:Wok L) {k:Nat} (hk:k≤L.length) (ht:Dn (L.take k)) {z:Nat} (hz:wv (L.take k)=z):WAt w (.slice (some ⟨g,0,none⟩) k n) z:=by
 have hl:(L.take k).length=k:=by rw[YA];omega
 refine⟨⟨some ⟨g,0,none⟩,n,L.take k,by rw[hl],?_,ho.take k,ht,hz⟩,fun g' e=>?_⟩
 case refine_2=>
  obtain rfl:g=g':=by simpa[Value.ownBlock] using e
  rcases h.2 with⟨h',_⟩|⟨g2,cap,cur,h',_,h3,_⟩
  ·cases h'
  injection h' with h4 _ _;injection h4 with h4;injection h4 with h4 _ _;subst h4;exact⟨_,_,h3⟩
 exact XG h.at_ k hk
def vxK (w:World) (v:Value):Prop:=∀g,v.ownBlock=some g→w.heap.size≤g
theorem vF {w:World} {g k n:Nat} (h:w.heap.size≤g):vxK w (.slice (some ⟨g,0,none⟩) k n):=fun g' e=>by
 have e':g=g':=by simpa[Value.ownBlock] using e
 omega
def MakesW (z:Nat) (w:World) (e:Ending) (w':World):Prop:=Below w.heap.size w w'∧∃v,e=.returned v∧WAt w' v z∧vxK w v
theorem WAt.kept {w w':World} {v:Value} {z:Nat} {row:Option Nat} (h:WAt w v z) (kB:w.grownBy w' row) (hg:∀g,row=some g→v.ownBlock≠some g):WAt w' v z:=by
 refine⟨?_,h.2.kept kB hg⟩;obtain⟨⟨A,c,L,rfl,⟨A',c',e,h2,h3,h4⟩,h5,h6,h7⟩,-⟩:=h;injection e with e1 _ e3;subst e1 e3;refine⟨A,c,L,rfl,⟨A,c,rfl,h2,h3,fun h0=>?_⟩,h5,h6,h7⟩;obtain⟨b,off,rfl,h8,h9⟩:=h4 h0;refine⟨b,off,rfl,yK h8 kB.size,fun j u hu=>?_⟩;rw[kB.cell_far ⟨b,off+j,none⟩ h8 (fun e=>hg b e.symm rfl)];exact h9 j u hu
theorem WAt.apart {w:World} {v:Value} {z g:Nat} {t:TypeId} {cs:Array Value} {r:Nat×Nat} (h:WAt w v z) (hg:w.heap[g]?=some (.cells cs t r)) (ht:t≠205):v.ownBlock≠some g:=fun e=>by
 obtain⟨cs',r',e1⟩:=h.2 g e;rw[hg] at e1;injection e1 with e1;injection e1 with _ e2 _;exact ht e2
theorem WAt.other {w:World} {v:Value} {z:Nat} (h:WAt w v z) (g i:Nat) (x:Value) (hg:v.ownBlock≠some g):WAt (w.setCell ⟨g,i,none⟩ x) v z:=by
 have kB:w.grownBy (w.setCell ⟨g,i,none⟩ x) (some g):=⟨rfl,rfl,rfl,by simp[World.setCell],fun k _ hk=>Below.heap_setCell w _ _ k (fun e=>hk (by rw[e]))⟩;exact h.kept kB (fun g' e=>by injection e with e;rw[←e];exact hg)
theorem MH (v u:Value) (a b K:Nat) (w:World) (hv:WAt w v a) (hu:WAt w u b) (hK:K≤1000000) (ha:a<4294967296^K) (hb:b<4294967296^K):Calls Tryz.prog 191 #[v,u] w (MakesW (a+b) w):=by
 obtain⟨A,c,L,rfl,hl,Ky,Kx,rfl⟩:=hv.1;obtain⟨A',c',M,rfl,hm,hMo,UR,rfl⟩:=hu.1;have hl6:L.length≤1000000:=yH (jV Kx ha) hK;have hm6:M.length≤1000000:=yH (jV UR hb) hK;obtain⟨_,_,e,fU,cM,aj⟩:=hl.open_;injection e with e1 _ e2;subst e1 e2;obtain⟨_,_,e,pR,nH,oI⟩:=hm.open_;injection e with e1 _ e2;subst e1 e2;unfold maxLen at cM nH;have HC:=zh aj;have HD:=zh oI;have HLo:=zh Ky;have Dt:=zh hMo;obtain⟨i0,jB,hH,jb,km⟩:=info_parts o9
 clear aj oI hl hm Ky Kx hMo UR ha hb hK;by_cases ao:L.length<M.length
 case' pos=>
  have hd:decide (L.length<M.length)=true:=yD ao;go_enter Tryz.func191,Tryz.ntmps191;have aZ:i0.bytes*(M.length+1)≤281474976710656:=by rw[km];omega
  go_wp2_with (at_make;refine wpList_make_full _ rfl _ _ 150 rfl w.heap.size 205 i0 (.int .u32 0) 1 Tryz.underlying150 jB hH jb .i64 .i64 _ _ (M.length+1) rfl rfl rfl rfl aZ (by unfold maxLen;omega) (Nat.le_refl _) ?_;intro w4 bC bz);obtain⟨X,rfl⟩:∃X,X=M:=⟨_,rfl⟩;obtain⟨Y,rfl⟩:∃Y,Y=L:=⟨_,rfl⟩;have HX:=HD;have HY:=HC;have Hv:=Dt;have HYo:=HLo;have Up:Y.length≤X.length:=by omega
  have hx6:=hm6;have HS:Y0 (wv Y+wv X=wv X+wv Y):=Nat.add_comm _ _
 case' neg=>
  have hd:decide (L.length<M.length)=false:=yC ao;go_enter Tryz.func191,Tryz.ntmps191;have aZ:i0.bytes*(L.length+1)≤281474976710656:=by rw[km];omega
  go_wp2_with (at_make;refine wpList_make_full _ rfl _ _ 150 rfl w.heap.size 205 i0 (.int .u32 0) 1 Tryz.underlying150 jB hH jb .i64 .i64 _ _ (L.length+1) rfl rfl rfl rfl aZ (by unfold maxLen;omega) (Nat.le_refl _) ?_;intro w4 bC bz);obtain⟨X,rfl⟩:∃X,X=L:=⟨_,rfl⟩;obtain⟨Y,rfl⟩:∃Y,Y=M:=⟨_,rfl⟩;have HX:=HC;have HY:=HD;have Hv:=HLo;have HYo:=Dt;have Up:Y.length≤X.length:=by omega
  have hx6:=hl6;have HS:Y0 (wv X+wv Y=wv X+wv Y):=rfl
 all_goals
  rw[o7] at bC;have bU:=(yB w.heap.size w).grown bz (yA _) (fun k hk=>by cases hk);have tP:Y0 (OwnW w4 w.heap.size (X.length+1) (List.replicate (X.length+1) 0)):=bC;obtain⟨g,hg⟩:=zo (w.heap.size);have CF:w.heap.size≤g:=Nat.le_of_eq hg;rw[hg] at tP;simp only[hg];clear bC bz jB hH jb aZ hg;go_loopw [6,21] (fun cx ix wr=>∃(k cy:Nat) (O:List Nat),k≤X.length+1∧ix=.int .i64 k∧cx=.int .u64 (cy:Nat)∧cy≤1∧Y0 (OwnW wr g (X.length+1) O)∧Y0 (Wok O)∧Y0 (aw (aQ O) k+4294967296^k*cy=aw (aQ X) k+aw (aQ Y) k)∧Below w.heap.size w wr) (fun _ ix _=>X.length+1-(intOf ix).toNat)
  case atStart=>exact⟨0,0,_,yI _,rfl,rfl,yI _,tP,Wok.zeros _,rfl,bU⟩
  clear tP bU;obtain⟨k,cy,O,hk,rfl,rfl,Pz,HO,HW,gP,ai⟩:=hrel;have k0:(0:Int)≤(k:Int):=yE _;by_cases ay:k<X.length+1
  ·have z1:=HO.o.cell ay;have z2:=HO.o.frozen k;have k1:(k:Int)<(X.length:Int)+1:=by omega
   by_cases Mi:k<Y.length
   ·have vg:k<X.length:=by omega
    obtain⟨b1,o1,rfl,-,hx⟩:=HX.o k vg;obtain⟨b2,o2,rfl,-,hy⟩:=HY.o k Mi;have hx:=hx k vg;have hy:=hy k Mi;unfold pU at hx hy;have x0:X[k]<4294967296:=Hv.o _ (yV vg);have y0:Y[k]<4294967296:=HYo.o _ (yV Mi);have hx:=fun w' (hb:Below w.heap.size w w')=>(hb.cell (p:=⟨b1,o1+k,none⟩) (World.block_lt_of_cell? _ _ hx)).trans hx;have hy:=fun w' (hb:Below w.heap.size w w')=>(hb.cell (p:=⟨b2,o2+k,none⟩) (World.block_lt_of_cell? _ _ hy)).trans hy
    have hx:=hx _ ai;have hy:=hy _ ai;have BP:Y0 (aQ X k=X[k]):=cu vg;have mz:Y0 (aQ Y k=Y[k]):=cu Mi;generalize X[k]=x at*;generalize Y[k]=y at*;have x1:(x:Int)<4294967296:=by omega
    have y1:(y:Int)<4294967296:=by omega
    have x2:(0:Int)≤(x:Int):=yE _;have y2:(0:Int)≤(y:Int):=yE _;have c2:(0:Int)≤(cy:Int):=yE _;have c3:(cy:Int)≤1:=by omega
    go_wp2_with fail;have pJ:Y0 (OwnW (wr.setCell ⟨g,k,none⟩ (.int .u32 (((cy+x+y)%4294967296:Nat):Int))) g (X.length+1) (O.set k ((cy+x+y)%4294967296))):=HO.o.set_ k _;have DJ:Y0 (Wok (O.set k ((cy+x+y)%4294967296))):=HW.o.set k (YJ _ (by decide));have cJ:Y0 (Below w.heap.size w (wr.setCell ⟨g,k,none⟩ (.int .u32 (((cy+x+y)%4294967296:Nat):Int)))):=ai.setCell (p:=⟨g,k,none⟩) CF _;have dY:Y0 (aw (aQ (O.set k ((cy+x+y)%4294967296))) (k+1)+4294967296^(k+1)*((cy+x+y)/4294967296)=aw (aQ X) (k+1)+aw (aQ Y) (k+1)):=Dm (by rw[HO.o.len];omega) gP.o (by rw[BP.o,mz.o];omega)
    have UD:(cy+x+y)/4294967296≤1:=by omega
    clear HO HW gP ai z1 z2;go_roundw
    case rel=>exact⟨k+1,(cy+x+y)/4294967296,_,by omega,by go_num,by go_num,UD,pJ,DJ,dY,cJ⟩
    simp[intOf];omega
   by_cases vg:k<X.length
   ·obtain⟨b1,o1,rfl,-,hx⟩:=HX.o k vg;have hx:=hx k vg;unfold pU at hx;have x0:X[k]<4294967296:=Hv.o _ (yV vg);have hx:=fun w' (hb:Below w.heap.size w w')=>(hb.cell (p:=⟨b1,o1+k,none⟩) (World.block_lt_of_cell? _ _ hx)).trans hx;have hx:=hx _ ai;have BP:Y0 (aQ X k=X[k]):=cu vg;have mz:Y0 (aQ Y k=0):=fZ (by omega);generalize X[k]=x at*;have x1:(x:Int)<4294967296:=by omega
    have x2:(0:Int)≤(x:Int):=yE _;have c2:(0:Int)≤(cy:Int):=yE _;have c3:(cy:Int)≤1:=by omega
    go_wp2_with fail;have pJ:Y0 (OwnW (wr.setCell ⟨g,k,none⟩ (.int .u32 (((cy+x)%4294967296:Nat):Int))) g (X.length+1) (O.set k ((cy+x)%4294967296))):=HO.o.set_ k _;have DJ:Y0 (Wok (O.set k ((cy+x)%4294967296))):=HW.o.set k (YJ _ (by decide));have cJ:Y0 (Below w.heap.size w (wr.setCell ⟨g,k,none⟩ (.int .u32 (((cy+x)%4294967296:Nat):Int)))):=ai.setCell (p:=⟨g,k,none⟩) CF _;have dY:Y0 (aw (aQ (O.set k ((cy+x)%4294967296))) (k+1)+4294967296^(k+1)*((cy+x)/4294967296)=aw (aQ X) (k+1)+aw (aQ Y) (k+1)):=Dm (by rw[HO.o.len];omega) gP.o (by rw[BP.o,mz.o];omega)
    have UD:(cy+x)/4294967296≤1:=by omega
    clear HO HW gP ai z1 z2;go_roundw
    case rel=>exact⟨k+1,(cy+x)/4294967296,_,by omega,by go_num,by go_num,UD,pJ,DJ,dY,cJ⟩
    simp[intOf];omega
   obtain rfl:k=X.length:=by omega
   have BP:Y0 (aQ X X.length=0):=fZ (yA _);have mz:Y0 (aQ Y X.length=0):=fZ Up;have nH:decide (X.length<Y.length)=false:=yC Mi;have c2:(0:Int)≤(cy:Int):=yE _;have c3:(cy:Int)≤1:=by omega
   go_wp2_with fail;have pJ:Y0 (OwnW (wr.setCell ⟨g,X.length,none⟩ (.int .u32 (((cy)%4294967296:Nat):Int))) g (X.length+1) (O.set X.length ((cy)%4294967296))):=HO.o.set_ X.length _;have DJ:Y0 (Wok (O.set X.length ((cy)%4294967296))):=HW.o.set X.length (YJ _ (by decide));have cJ:Y0 (Below w.heap.size w (wr.setCell ⟨g,X.length,none⟩ (.int .u32 (((cy)%4294967296:Nat):Int)))):=ai.setCell (p:=⟨g,X.length,none⟩) CF _
   have dY:Y0 (aw (aQ (O.set X.length ((cy)%4294967296))) (X.length+1)+4294967296^(X.length+1)*((cy)/4294967296)=aw (aQ X) (X.length+1)+aw (aQ Y) (X.length+1)):=Dm (by rw[HO.o.len];omega) gP.o (by rw[BP.o,mz.o];omega);have UD:(cy)/4294967296≤1:=by omega
   rw[show cy%4294967296=cy from Nat.mod_eq_of_lt (by omega)] at pJ DJ cJ dY;clear HO HW gP ai z1 z2;go_roundw
   case rel=>exact⟨X.length+1,(cy)/4294967296,_,by omega,by go_num,by go_num,UD,pJ,DJ,dY,cJ⟩
   simp[intOf]
  obtain rfl:k=X.length+1:=by omega
  have hT:=tM (some ⟨g,0,none⟩) (X.length+1) wr.heap.size O wr HO.o.at_;rw[HO.o.len] at hT;have HZ:Y0 (wv O=wv X+wv Y):=ZS Hv.o HYo.o HO.o.len Up gP.o;clear gP ay hk;go_wp2_with fail;refine hT.mono ?_;rintro e w' ⟨rfl,rfl⟩;obtain⟨hm,ht,hv⟩:=iH O;have HT:=zh ht;have HV:=zh hv;clear ht hv hT;go_wp2_with fail;go_ret;exact⟨ai,_,rfl,by
   first
    | exact WAt.of_trim HO.o HW.o hm HT.o (HV.o.trans HZ.o)
    | exact WAt.of_trim HO.o HW.o hm HT.o (HV.o.trans (HZ.o.trans (Nat.add_comm _ _))),vF CF⟩
theorem zm (v u:Value) (a b K:Nat) (w:World) (hv:WAt w v a) (hu:WAt w u b) (hK:K≤1000000) (ha:a<4294967296^K) (ko:b≤a):Calls Tryz.prog 193 #[v,u] w (MakesW (a-b) w):=by
 obtain⟨A,c,X,rfl,hl,P4,UN,rfl⟩:=hv.1;obtain⟨A',c',Y,rfl,hm,hYo,hYt,rfl⟩:=hu.1;have hl6:X.length≤1000000:=yH (jV UN ha) hK;have Up:Y.length≤X.length:=by
  rcases Nat.lt_or_ge X.length Y.length with h|h
  ·have:=Ij P4 hYt h;omega
  exact h
 obtain⟨_,_,e,fU,cM,aj⟩:=hl.open_;injection e with e1 _ e2;subst e1 e2;obtain⟨_,_,e,pR,nH,oI⟩:=hm.open_;injection e with e1 _ e2;subst e1 e2;unfold maxLen at cM nH;have HX:=zh aj;have HY:=zh oI;have Hv:=zh P4;have HYo:=zh hYo;have uT:=zh ko;obtain⟨i0,jB,hH,jb,km⟩:=info_parts o9;have aZ:i0.bytes*X.length≤281474976710656:=by rw[km];omega
 clear aj oI hl hm P4 UN hYo hYt ha hK ko;go_enter Tryz.func193,Tryz.ntmps193;go_wp2_with (at_make;refine wpList_make_full _ rfl _ _ 150 rfl w.heap.size 205 i0 (.int .u32 0) 1 Tryz.underlying150 jB hH jb .i64 .i64 _ _ X.length rfl rfl rfl rfl aZ (by unfold maxLen;omega) (Nat.le_refl _) ?_;intro w4 bC bz);rw[o7] at bC;have bU:=(yB w.heap.size w).grown bz (yA _) (fun k hk=>by cases hk);have tP:Y0 (OwnW w4 w.heap.size X.length (List.replicate X.length 0)):=bC
 obtain⟨g,hg⟩:=zo (w.heap.size);have CF:w.heap.size≤g:=Nat.le_of_eq hg;rw[hg] at tP;simp only[hg];clear bC bz jB hH jb aZ hg;go_loopw [6,14] (fun cx ix wr=>∃(k cy:Nat) (O:List Nat),k≤X.length∧ix=.int .i64 k∧cx=.int .i64 (cy:Nat)∧cy≤1∧Y0 (OwnW wr g X.length O)∧Y0 (Wok O)∧Y0 (aw (aQ O) k+aw (aQ Y) k=aw (aQ X) k+4294967296^k*cy)∧Below w.heap.size w wr) (fun _ ix _=>X.length-(intOf ix).toNat)
 case atStart=>exact⟨0,0,_,yI _,rfl,rfl,yI _,tP,Wok.zeros _,rfl,bU⟩
 clear tP bU;obtain⟨k,cy,O,hk,rfl,rfl,Pz,HO,HW,gP,ai⟩:=hrel;have k0:(0:Int)≤(k:Int):=yE _;by_cases vg:k<X.length
 ·have z1:=HO.o.cell vg;have z2:=HO.o.frozen k;have k1:(k:Int)<(X.length:Int):=by omega
  obtain⟨b1,o1,rfl,-,hx⟩:=HX.o k vg;have hx:=hx k vg;unfold pU at hx;have x0:X[k]<4294967296:=Hv.o _ (yV vg);have hx:=fun w' (hb:Below w.heap.size w w')=>(hb.cell (p:=⟨b1,o1+k,none⟩) (World.block_lt_of_cell? _ _ hx)).trans hx;have hx:=hx _ ai;have BP:Y0 (aQ X k=X[k]):=cu vg;generalize X[k]=x at*;have x1:(x:Int)<4294967296:=by omega
  have x2:(0:Int)≤(x:Int):=yE _;have c2:(0:Int)≤(cy:Int):=yE _;have c3:(cy:Int)≤1:=by omega
  by_cases Mi:k<Y.length
  ·obtain⟨b2,o2,rfl,-,hy⟩:=HY.o k Mi;have hy:=hy k Mi;unfold pU at hy;have y0:Y[k]<4294967296:=HYo.o _ (yV Mi);have hy:=fun w' (hb:Below w.heap.size w w')=>(hb.cell (p:=⟨b2,o2+k,none⟩) (World.block_lt_of_cell? _ _ hy)).trans hy;have hy:=hy _ ai;have mz:Y0 (aQ Y k=Y[k]):=cu Mi;generalize Y[k]=y at*;have y1:(y:Int)<4294967296:=by omega
   have y2:(0:Int)≤(y:Int):=yE _;by_cases hs:x<cy+y
   ·have hd:decide ((x:Int)-cy-y<0)=true:=yD (by omega);go_wp2_with fail;obtain⟨d,UC⟩:∃d:Nat,(x:Int)-cy-y+4294967296=(d:Int):=⟨((x:Int)-cy-y+4294967296).toNat,by omega⟩;rw[UC];have pJ:Y0 (OwnW (wr.setCell ⟨g,k,none⟩ (.int .u32 (d:Int))) g X.length (O.set k d)):=HO.o.set_ k _;have DJ:Y0 (Wok (O.set k d)):=HW.o.set k (by omega);have cJ:Y0 (Below w.heap.size w (wr.setCell ⟨g,k,none⟩ (.int .u32 (d:Int)))):=ai.setCell (p:=⟨g,k,none⟩) CF _
    have dY:Y0 (aw (aQ (O.set k d)) (k+1)+aw (aQ Y) (k+1)=aw (aQ X) (k+1)+4294967296^(k+1)*1):=vB (by rw[HO.o.len];omega) gP.o (by rw[BP.o,mz.o];omega);clear HO HW gP ai z1 z2 UC;go_roundw
    case rel=>exact⟨k+1,1,_,by omega,by go_num,rfl,by omega,pJ,DJ,dY,cJ⟩
    simp[intOf];omega
   have hd:decide ((x:Int)-cy-y<0)=false:=yC (by omega);go_wp2_with fail;obtain⟨d,UC⟩:∃d:Nat,(x:Int)-cy-y=(d:Int):=⟨((x:Int)-cy-y).toNat,by omega⟩;rw[UC];have pJ:Y0 (OwnW (wr.setCell ⟨g,k,none⟩ (.int .u32 (d:Int))) g X.length (O.set k d)):=HO.o.set_ k _;have DJ:Y0 (Wok (O.set k d)):=HW.o.set k (by omega);have cJ:Y0 (Below w.heap.size w (wr.setCell ⟨g,k,none⟩ (.int .u32 (d:Int)))):=ai.setCell (p:=⟨g,k,none⟩) CF _
   have dY:Y0 (aw (aQ (O.set k d)) (k+1)+aw (aQ Y) (k+1)=aw (aQ X) (k+1)+4294967296^(k+1)*0):=vB (by rw[HO.o.len];omega) gP.o (by rw[BP.o,mz.o];omega);clear HO HW gP ai z1 z2 UC;go_roundw
   case rel=>exact⟨k+1,0,_,by omega,by go_num,rfl,by omega,pJ,DJ,dY,cJ⟩
   simp[intOf];omega
  have mz:Y0 (aQ Y k=0):=fZ (by omega);by_cases hs:x<cy
  ·have hd:decide ((x:Int)-cy<0)=true:=yD (by omega);go_wp2_with fail;obtain⟨d,UC⟩:∃d:Nat,(x:Int)-cy+4294967296=(d:Int):=⟨((x:Int)-cy+4294967296).toNat,by omega⟩;rw[UC];have pJ:Y0 (OwnW (wr.setCell ⟨g,k,none⟩ (.int .u32 (d:Int))) g X.length (O.set k d)):=HO.o.set_ k _;have DJ:Y0 (Wok (O.set k d)):=HW.o.set k (by omega);have cJ:Y0 (Below w.heap.size w (wr.setCell ⟨g,k,none⟩ (.int .u32 (d:Int)))):=ai.setCell (p:=⟨g,k,none⟩) CF _
   have dY:Y0 (aw (aQ (O.set k d)) (k+1)+aw (aQ Y) (k+1)=aw (aQ X) (k+1)+4294967296^(k+1)*1):=vB (by rw[HO.o.len];omega) gP.o (by rw[BP.o,mz.o];omega);clear HO HW gP ai z1 z2 UC;go_roundw
   case rel=>exact⟨k+1,1,_,by omega,by go_num,rfl,by omega,pJ,DJ,dY,cJ⟩
   simp[intOf];omega
  have hd:decide ((x:Int)-cy<0)=false:=yC (by omega);go_wp2_with fail;obtain⟨d,UC⟩:∃d:Nat,(x:Int)-cy=(d:Int):=⟨((x:Int)-cy).toNat,by omega⟩;rw[UC];have pJ:Y0 (OwnW (wr.setCell ⟨g,k,none⟩ (.int .u32 (d:Int))) g X.length (O.set k d)):=HO.o.set_ k _;have DJ:Y0 (Wok (O.set k d)):=HW.o.set k (by omega);have cJ:Y0 (Below w.heap.size w (wr.setCell ⟨g,k,none⟩ (.int .u32 (d:Int)))):=ai.setCell (p:=⟨g,k,none⟩) CF _
  have dY:Y0 (aw (aQ (O.set k d)) (k+1)+aw (aQ Y) (k+1)=aw (aQ X) (k+1)+4294967296^(k+1)*0):=vB (by rw[HO.o.len];omega) gP.o (by rw[BP.o,mz.o];omega);clear HO HW gP ai z1 z2 UC;go_roundw
  case rel=>exact⟨k+1,0,_,by omega,by go_num,rfl,by omega,pJ,DJ,dY,cJ⟩
  simp[intOf];omega
 obtain rfl:k=X.length:=by omega
 have hT:=tM (some ⟨g,0,none⟩) X.length wr.heap.size O wr HO.o.at_;rw[HO.o.len] at hT;have HZ:Y0 (wv O=wv X-wv Y):=XD HW.o HO.o.len Up uT.o gP.o;clear gP hk;go_wp2_with fail;refine hT.mono ?_;rintro e w' ⟨rfl,rfl⟩;obtain⟨hm,ht,hv⟩:=iH O;have HT:=zh ht;have HV:=zh hv;clear ht hv hT;go_wp2_with fail;go_ret;exact⟨ai,_,rfl,WAt.of_trim HO.o HW.o hm HT.o (HV.o.trans HZ.o),vF CF⟩
def yv (Q j:Nat):Nat:=Q/4294967296^j%4294967296
theorem M5 (Q:Nat):∀n,aw (yv Q) n=Q%4294967296^n
 | 0=>by show 0=Q%1;omega
 | n+1=>by
  show aw (yv Q) n+4294967296^n*yv Q n=_;rw[M5 Q n,yW,Nat.mod_mul];rfl
theorem VB (j:Nat):yv 0 j=0:=by unfold yv;rw[Nat.zero_div]
theorem oX (j:Nat):4294967296^j=2^(32*j):=by rw[Nat.pow_mul]
theorem Z9 {m i j0 t:Nat} (hi:i=32*j0+t) (ht:t<32) (j:Nat):yv (2^(i+1)*m+2^i) j=if j=j0 then yv (2^(i+1)*m) j+2^t else yv (2^(i+1)*m) j:=by
 unfold yv;rw[oX];by_cases e:j=j0
 ·subst e;rw[if_pos rfl];have e1:2^(i+1)*m=2^(32*j)*(2^(t+1)*m):=by rw[←yY,←Nat.pow_add];congr 2;omega
  have e2:(2:Nat)^i=2^(32*j)*2^t:=by rw[←Nat.pow_add];congr 1
  rw[e1,e2,←yX,Nat.mul_div_cancel_left _ (Nat.two_pow_pos _),Nat.mul_div_cancel_left _ (Nat.two_pow_pos _)];have e3:(4294967296:Nat)=2^(t+1)*2^(31-t):=by rw[←Nat.pow_add,show t+1+(31-t)=32 by omega]
  have e4:2^(t+1)*m%4294967296=2^(t+1)*(m%2^(31-t)):=by rw[e3,Nat.mul_mod_mul_left]
  have e5:2^(t+1)*(m%2^(31-t))+2^(t+1)≤4294967296:=by
   have:m%2^(31-t)+1≤2^(31-t):=YJ _ (Nat.two_pow_pos _)
   calc 2^(t + 1) * (m%2^(31 - t)) + 2^(t + 1)=2^(t + 1) * (m%2^(31 - t) + 1) := by rw[yX,Nat.mul_one]
    _≤2^(t+1)*2^(31-t):=Nat.mul_le_mul_left _ this
    _=4294967296:=e3.symm
  have e6:(2:Nat)^(t+1)=2^t+2^t:=by rw[yW];omega
  have e7:=Nat.two_pow_pos t;rw[←Nat.mod_add_mod,e4,Nat.mod_eq_of_lt (by omega)]
 rw[if_neg e];by_cases ao:j<j0
 ·have e2:(2:Nat)^i=2^(32*j)*2^(i-32*j):=by rw[←Nat.pow_add];congr 1;omega
  have e3:(2:Nat)^(i-32*j)=4294967296*2^(i-32*j-32):=by rw[show (4294967296:Nat)=2^32 from rfl,←Nat.pow_add];congr 1;omega
  rw[e2,Nat.add_mul_div_left _ _ (Nat.two_pow_pos _),e3,Nat.add_mul_mod_self_left]
 have e2:(2:Nat)^(32*j)=2^(i+1)*2^(32*j-i-1):=by rw[←Nat.pow_add];congr 1;omega
 have e3:(2:Nat)^i<2^(i+1):=Nat.pow_lt_pow_right (by decide) (by omega);rw[e2,←YB,←YB,Nat.mul_add_div (Nat.two_pow_pos _),Nat.div_eq_of_lt e3,Nat.add_zero,Nat.mul_div_cancel_left _ (Nat.two_pow_pos _)]
theorem Z7 {m i j0 t:Nat} (hi:i=32*j0+t) (ht:t<32):yv (2^(i+1)*m) j0 ||| 2^t=yv (2^(i+1)*m) j0+2^t:=by
 unfold yv;rw[oX];have e1:2^(i+1)*m=2^(32*j0)*(2^(t+1)*m):=by rw[←yY,←Nat.pow_add];congr 2;omega
 rw[e1,Nat.mul_div_cancel_left _ (Nat.two_pow_pos _)];have e3:(4294967296:Nat)=2^(t+1)*2^(31-t):=by rw[←Nat.pow_add,show t+1+(31-t)=32 by omega]
 have e4:2^(t+1)*m%4294967296=2^(t+1)*(m%2^(31-t)):=by rw[e3,Nat.mul_mod_mul_left]
 rw[e4,Nat.two_pow_add_eq_or_of_lt (Nat.pow_lt_pow_right (by decide) (by omega))]
theorem Gl {A d i r q:Nat} (hq:A/2^(i+1)=q*d+r) (hr:r<d) {b:Nat} (hb:b=A/2^i%2) :
  if d≤2*r+b then A/2^i=(2*q+1)*d+(2*r+b-d)∧2*r+b-d<d else A/2^i=2*q*d+(2*r+b)∧2*r+b<d:=by
 have e:A/2^i=2*(A/2^(i+1))+b:=by
  rw[hb,yW,←YB];omega
 rw[hq,yX,←yY] at e;have aU:b<2:=by omega
 split
 ·rename_i h
  rw[Nat.add_mul,Nat.one_mul];omega
 omega
open Go.RowKit Go.Shelf
theorem Ay (n:Int):IntKind.u32.wrap n=n%4294967296:=by simp[IntKind.wrap,IntKind.bits,IntKind.signed]
theorem uN (a b:Nat) (ha:a<4294967296) (hb:b<4294967296):bits .or .u32 (a:Int) (b:Int)=((a ||| b:Nat):Int):=by
 have hx:a ||| b<2^32:=Nat.or_lt_two_pow (by omega) (by omega);have h1:(BitVec.ofInt 32 (a:Int)).toNat=a:=by
  rw[BitVec.ofInt_natCast,BitVec.toNat_ofNat];exact Nat.mod_eq_of_lt (by omega)
 have h2:(BitVec.ofInt 32 (b:Int)).toNat=b:=by
  rw[BitVec.ofInt_natCast,BitVec.toNat_ofNat];exact Nat.mod_eq_of_lt (by omega)
 show IntKind.u32.wrap ((BitVec.ofInt 32 (a:Int) ||| BitVec.ofInt 32 (b:Int)).toNat:Int)=_;rw[BitVec.toNat_or,h1,h2,Ay];omega
theorem YT (x y:Nat) (hx:x<4294967296):bits .or .u32 ((x:Int)/2) ((y:Int)*2147483648%4294967296)=((x/2+2147483648*(y%2):Nat):Int):=by
 have e1:((x:Int)/2)=((x/2:Nat):Int):=by omega
 have e2:((y:Int)*2147483648%4294967296)=((2147483648*(y%2):Nat):Int):=by omega
 rw[e1,e2,uN _ _ (by omega) (by omega)];have h:=Nat.two_pow_add_eq_or_of_lt (i:=31) (b:=x/2) (by omega) (y%2);have e3:(2:Nat)^31=2147483648:=by decide
 rw[e3] at h;rw[Nat.or_comm,←h,Nat.add_comm]
theorem De (v:Value) (a K:Nat) (w:World) (hv:WAt w v a) (hK:K≤1000000) (ha:a<4294967296^K):Calls Tryz.prog 212 #[v] w (MakesW (a/2) w):=by
 obtain⟨A,c,X,rfl,hl,P4,UN,rfl⟩:=hv.1;have hl6:X.length≤1000000:=yH (jV UN ha) hK;obtain⟨_,_,e,fU,cM,aj⟩:=hl.open_;injection e with e1 _ e2;subst e1 e2;unfold maxLen at cM;have HX:=zh aj;have Hv:=zh P4;obtain⟨i0,jB,hH,jb,km⟩:=info_parts o9;have aZ:i0.bytes*X.length≤281474976710656:=by rw[km];omega
 clear aj hl P4 UN ha hK;go_enter Tryz.func212,Tryz.ntmps212;go_wp2_with (at_make;refine wpList_make_full _ rfl _ _ 150 rfl w.heap.size 205 i0 (.int .u32 0) 1 Tryz.underlying150 jB hH jb .i64 .i64 _ _ X.length rfl rfl rfl rfl aZ (by unfold maxLen;omega) (Nat.le_refl _) ?_;intro w4 bC bz);rw[o7] at bC;have bU:=(yB w.heap.size w).grown bz (yA _) (fun k hk=>by cases hk);have tP:Y0 (OwnW w4 w.heap.size X.length (List.replicate X.length 0)):=bC
 have H00:Y0 (2*aw (aQ (List.replicate X.length 0)) 0+aQ X 0%2=aw (aQ X) 0+4294967296^0*(aQ X 0%2)):=by
  unfold Y0;rw[Nat.pow_zero,Nat.one_mul];rfl
 obtain⟨g,hg⟩:=zo (w.heap.size);have CF:w.heap.size≤g:=Nat.le_of_eq hg;rw[hg] at tP;simp only[hg];clear bC bz jB hH jb aZ hg;go_loopw [10] (fun ix wr=>∃(k:Nat) (O:List Nat),k≤X.length∧ix=.int .i64 k∧Y0 (OwnW wr g X.length O)∧Y0 (Wok O)∧Y0 (2*aw (aQ O) k+aQ X 0%2=aw (aQ X) k+4294967296^k*(aQ X k%2))∧Below w.heap.size w wr) (fun ix _=>X.length-(intOf ix).toNat)
 case atStart=>exact⟨0,_,yI _,rfl,tP,Wok.zeros _,H00,bU⟩
 clear tP bU H00;obtain⟨k,O,hk,rfl,HO,HW,gP,ai⟩:=hrel;have k0:(0:Int)≤(k:Int):=yE _;by_cases vg:k<X.length
 ·have z1:=HO.o.cell vg;have z2:=HO.o.frozen k;have k1:(k:Int)<(X.length:Int):=by omega
  obtain⟨b1,o1,rfl,ak,Oc⟩:=HX.o k vg;have hx:=Oc k vg;unfold pU at hx;have x0:X[k]<4294967296:=Hv.o _ (yV vg);have hx:=fun w' (hb:Below w.heap.size w w')=>(hb.cell (p:=⟨b1,o1+k,none⟩) ak).trans hx;have hx:=hx _ ai;have BP:Y0 (aQ X k=X[k]):=cu vg;generalize X[k]=x at*;have x1:(x:Int)<4294967296:=by omega
  have x2:(0:Int)≤(x:Int):=yE _;by_cases Mi:k+1<X.length
  ·have hy:=Oc (k+1) Mi;unfold pU at hy;have y0:X[k+1]<4294967296:=Hv.o _ (yV Mi);have hy:=fun w' (hb:Below w.heap.size w w')=>(hb.cell (p:=⟨b1,o1+(k+1),none⟩) ak).trans hy;have mz:Y0 (aQ X (k+1)=X[k+1]):=cu Mi;generalize X[k+1]=y at*;have y1:(y:Int)<4294967296:=by omega
   have y2:(0:Int)≤(y:Int):=yE _;have hd:decide ((k:Int)+1<X.length)=true:=yD (by omega);have k2:(k:Int)+1<(X.length:Int):=by omega
   have HyH:=zh hy;clear Oc hy;go_wp2_with fail;have pJ:Y0 (OwnW (wr.setCell ⟨g,k,none⟩ (.int .u32 ((x:Int)/2))) g X.length (O.set k (x/2))):=HO.o.set_ k (x/2);have aR:Below w.heap.size w (wr.setCell ⟨g,k,none⟩ (.int .u32 ((x:Int)/2))):=ai.setCell (p:=⟨g,k,none⟩) CF _;have y5:=HyH.o _ aR;have z3:=pJ.o.cell vg;rw[iU (by rw[HO.o.len];exact vg),if_pos rfl] at z3;have z4:=pJ.o.frozen k;clear z1 z2 hx ai
   generalize wr.setCell ⟨g,k,none⟩ (.int .u32 ((x:Int)/2))=w5 at*;refine bP 12 (by kernel_rfl) (by kernel_rfl) ?_;simp only[aM,aP,aN,aO]
   repeat (go_big_quiet_step (fail))
   refine YE ?_;go_wp2_with fail;rw[YT x y x0];have PH:Y0 (OwnW ((w5.setCell ⟨g,k,none⟩ (.int .u32 ((x/2+2147483648*(y%2):Nat):Int))).drew) g X.length (O.set k (aQ X k/2+2147483648*(aQ X (k+1)%2)))):=by
    rw[BP.o,mz.o]
    have:=pJ.o.set_ k (x/2+2147483648*(y%2));rw[List.set_set] at this;exact this.drewN 1
   have DJ:Y0 (Wok (O.set k (aQ X k/2+2147483648*(aQ X (k+1)%2)))):=HW.o.set k (by rw[BP.o,mz.o];omega);have cJ:Y0 (Below w.heap.size w ((w5.setCell ⟨g,k,none⟩ (.int .u32 ((x/2+2147483648*(y%2):Nat):Int))).drew)):=(aR.setCell (p:=⟨g,k,none⟩) CF _).drew;have dY:=zh (FN (by rw[HO.o.len];exact vg) gP.o);clear HO pJ HW gP aR z3 z4;go_roundw
   case rel=>exact⟨k+1,_,by omega,by go_num,PH,DJ,dY,cJ.o⟩
   simp[intOf];omega
  have mz:Y0 (aQ X (k+1)=0):=fZ (by omega);have hd:decide ((k:Int)+1<X.length)=false:=yC (by omega);clear Oc;go_wp2_with fail;have pJ:Y0 (OwnW (wr.setCell ⟨g,k,none⟩ (.int .u32 ((x:Int)/2))) g X.length (O.set k (aQ X k/2+2147483648*(aQ X (k+1)%2)))):=by
   rw[BP.o,mz.o];exact HO.o.set_ k (x/2)
  have DJ:Y0 (Wok (O.set k (aQ X k/2+2147483648*(aQ X (k+1)%2)))):=HW.o.set k (by rw[BP.o,mz.o];omega);have cJ:Y0 (Below w.heap.size w (wr.setCell ⟨g,k,none⟩ (.int .u32 ((x:Int)/2)))):=ai.setCell (p:=⟨g,k,none⟩) CF _;have dY:=zh (FN (by rw[HO.o.len];exact vg) gP.o);clear HO HW gP ai z1 z2;go_roundw
  case rel=>exact⟨k+1,_,by omega,by go_num,pJ,DJ,dY,cJ.o⟩
  simp[intOf];omega
 obtain rfl:k=X.length:=by omega
 have hT:=tM (some ⟨g,0,none⟩) X.length wr.heap.size O wr HO.o.at_;rw[HO.o.len] at hT;have HZ:Y0 (wv O=wv X/2):=UL HO.o.len gP.o;clear gP hk;go_wp2_with fail;refine hT.mono ?_;rintro e w' ⟨rfl,rfl⟩;obtain⟨hm,ht,hv⟩:=iH O;have HT:=zh ht;have HV:=zh hv;clear ht hv hT;go_wp2_with fail;go_ret;exact⟨ai,_,rfl,WAt.of_trim HO.o HW.o hm HT.o (HV.o.trans HZ.o),vF CF⟩
theorem OB {P x s j n:Nat} (hP:P=4294967296^n) (h:j<n):yv (s+P*x) j=yv s j:=by
 unfold yv;have e:P=4294967296^j*(4294967296*4294967296^(n-j-1)):=by
  rw[hP,←Nat.pow_succ',←Nat.pow_add];congr 1
  omega
 rw[e,yY,Nat.add_mul_div_left _ _ (rH j),yY,Nat.add_mul_mod_self_left]
theorem yu {f:Nat→Nat} (hf:∀i,f i < 4294967296):∀ {n j:Nat},j < n→yv (aw f n) j=f j
 | 0,_,h=>absurd h (by omega)
 | n+1,j,h=>by
  show yv (aw f n+4294967296^n*f n) j=_;by_cases e:j<n
  ·rw[OB rfl e,yu hf e]
  obtain rfl:j=n:=by omega
  unfold yv;rw[Nat.add_mul_div_left _ _ (rH j),Nat.div_eq_of_lt (m5 hf j),yR,Nat.mod_eq_of_lt (hf j)]
theorem X0 {L:List Nat} (h:Wok L) {j:Nat} (hj:j<L.length):aQ L j=yv (wv L) j:=(yu (gQ h) hj).symm
theorem Z8 (A j t:Nat) (ht:t<32):yv A j/2^t%2=A/2^(32*j+t)%2:=by
 unfold yv;have e1:A/2^(32*j+t)=A/4294967296^j/2^t:=by rw[Nat.pow_add,←YB,oX]
 rw[e1];generalize A/4294967296^j=x;have e2:(4294967296:Nat)=2^t*2^(32-t):=by rw[←Nat.pow_add,show t+(32-t)=32 by omega]
 have e3:(2:Nat)^(32-t)=2*2^(31-t):=by rw[show 32-t=(31-t)+1 by omega,yW,Nat.mul_comm]
 rw[e2,Nat.mod_mul_right_div_self,e3,Nat.mod_mul_right_mod]
theorem VS {X:List Nat} (h:Wok X) {i:Nat} (hi:i/32<X.length):aQ X (i/32)/2^(i%32)%2=wv X/2^i%2:=by
 rw[X0 h hi,Z8 _ _ _ (YJ _ (by decide)),YI]
theorem V9 {x d q r:Nat} (h:x=q*d+r) (hr:r<d):x/d=q∧x%d=r:=(Nat.div_mod_unique (by omega)).2 ⟨by rw[h,Nat.add_comm,Nat.mul_comm],hr⟩
structure DivSt (A d I:Nat) (O:List Nat) (r:Nat):Prop where
 rest:r=A/2^I%d
 o:∀j,aQ O j=yv (2^I*(A/2^I/d)) j
theorem DivSt.start {A d n:Nat} (hA:A<4294967296^n) (m:Nat):DivSt A d (32*n) (List.replicate m 0) 0:=by
 have e:A/2^(32*n)=0:=Nat.div_eq_of_lt (by rwa [←oX]);exact⟨by rw[e,Nat.zero_mod],fun j=>by rw[sW,e,Nat.zero_div,Nat.mul_zero,VB]⟩
theorem DivSt.lt {A d I r:Nat} {O:List Nat} (h:DivSt A d I O r) (hd:0<d):r<d:=by rw[h.rest];exact YJ _ hd
theorem DivSt.yes {A d i r:Nat} {O:List Nat} (hd:0<d) (h:DivSt A d (i+1) O r) (hl:i/32<O.length) {s:Nat} (hs:s=2*r+A/2^i%2) (ko:d≤s) :
  DivSt A d i (O.set (i/32) (aQ O (i/32) ||| 2^(i%32))) (s-d):=by
 subst hs;have hdm:A/2^(i+1)=A/2^(i+1)/d*d+r:=by rw[h.rest,Nat.mul_comm];exact (YI _ _).symm
 have h1:=Gl hdm (h.lt hd) rfl;rw[if_pos ko] at h1;have h2:=V9 h1.1 h1.2;have hi:i=32*(i/32)+i%32:=(YI i 32).symm;have ht:i%32<32:=YJ _ (by decide);generalize hq:A/2^(i+1)/d=q at*;have e2:2^i*(2*q+1)=2^(i+1)*q+2^i:=by rw[yX,Nat.mul_one,yW,yY]
 refine⟨h2.2.symm,fun j=>?_⟩;rw[h2.1,e2,Z9 hi ht,iU hl,h.o,h.o];split
 ·rename_i e
  subst e;rw[hq];exact Z7 hi ht
 rw[hq]
theorem DivSt.no {A d i r:Nat} {O:List Nat} (hd:0<d) (h:DivSt A d (i+1) O r) {s:Nat} (hs:s=2*r+A/2^i%2) (ao:s<d):DivSt A d i O s:=by
 subst hs;have hdm:A/2^(i+1)=A/2^(i+1)/d*d+r:=by rw[h.rest,Nat.mul_comm];exact (YI _ _).symm
 have h1:=Gl hdm (h.lt hd) rfl;rw[if_neg (by omega)] at h1;have h2:=V9 h1.1 h1.2;generalize hq:A/2^(i+1)/d=q at*;have e2:2^i*(2*q)=2^(i+1)*q:=by rw[yW,yY]
 refine⟨h2.2.symm,fun j=>?_⟩;rw[h2.1,e2,h.o,hq]
theorem DivSt.done {A d r n:Nat} {O:List Nat} (h:DivSt A d 0 O r) (hO:O.length=n) (hA:A<4294967296^n):wv O=A/d:=by
 have e:wv O=aw (yv (A/d)) n:=by
  unfold wv;rw[hO];refine jW fun i _=>?_;rw[h.o,Nat.pow_zero,Nat.div_one,Nat.one_mul]
 rw[e,M5,Nat.mod_eq_of_lt (Nat.lt_of_le_of_lt (YK _ _) hA)]
