/- Lemmas. -/
import Derived.Test.YtknkhnahflmjiaaGreatDoorA1
namespace Go.Proofs.YtknkhnahflmjiaaGreatDoor
def aJ (f:Nat→Nat):Nat→Nat
 | 0=>0
 | k+1=>aJ f k+4294967296^k*f k
def aZ (L:List Nat) (i:Nat):Nat:=L.getD i 0
def wv (L:List Nat):Nat:=aJ (aZ L) L.length
def Wok (L:List Nat):Prop:=∀x∈L,x<4294967296
def AL (L:List Nat):Prop:=L≠[]→aZ L (L.length-1)≠0
theorem qG (k:Nat):0<4294967296^k:=Nat.pow_pos (by decide)
theorem cJ {L:List Nat} {i:Nat} (h:i<L.length):aZ L i=L[i]:=by unfold aZ;rw[List.getD_eq_getElem?_getD,List.getElem?_eq_getElem h];rfl
theorem fY {L:List Nat} {i:Nat} (h:L.length≤i):aZ L i=0:=by unfold aZ;rw[List.getD_eq_getElem?_getD,List.getElem?_eq_none h];rfl
theorem ia {L:List Nat} (h:Wok L) (i:Nat):aZ L i<4294967296:=by
 by_cases hi:i<L.length
 ·rw[cJ hi];exact h _ (yV hi)
 rw[fY (by omega)];decide
theorem jN {f g:Nat→Nat}:∀ {k:Nat},(∀i,i < k→f i=g i)→aJ f k=aJ g k
 | 0,_=>rfl
 | k+1,h=>by
  show aJ f k+_=aJ g k+_;rw[jN (k:=k) fun i hi=>h i (by omega),h k (by omega)]
theorem lT {f:Nat→Nat} (h:∀i,f i < 4294967296):∀k,aJ f k < 4294967296^k
 | 0=>Nat.one_pos
 | k+1=>by
  have ih:=lT h k;have hk:=h k;have h1:4294967296^k*f k≤4294967296^k*4294967295:=Nat.mul_le_mul_left _ (by omega);show aJ f k+4294967296^k*f k<4294967296^(k+1);rw[yW];omega
theorem rK {f:Nat→Nat} {k:Nat} (h:∀i,k ≤ i→f i=0):∀m,k ≤ m→aJ f m=aJ f k
 | 0,hm=>by rw[show k=0 by omega]
 | m+1,hm=>by
  by_cases e:k=m+1
  ·rw[e]
  show aJ f m+4294967296^m*f m=_;rw[h m (by omega),rK h m (by omega),Nat.mul_zero,Nat.add_zero]
theorem tO (L:List Nat) {m:Nat} (h:L.length≤m):aJ (aZ L) m=wv L:=rK (fun _ hi=>fY hi) m h
theorem MD {L:List Nat} (h:Wok L):wv L<4294967296^L.length:=lT (ia h) _
theorem I9 (L:List Nat) (k:Nat) (hk:k≤L.length):wv (L.take k)=aJ (aZ L) k:=by
 unfold wv;rw[YA,Nat.min_eq_left hk];refine jN fun i hi=>?_;rw[cJ (by simp;omega),cJ (by omega)];simp
theorem Wok.take {L:List Nat} (h:Wok L) (k:Nat):Wok (L.take k):=fun x hx=>h x (List.mem_of_mem_take hx)
theorem ME {L:List Nat} {k:Nat} (hk:k<L.length) (h:aZ L k=0):wv (L.take (k+1))=wv (L.take k):=by
 rw[I9 L (k+1) (by omega),I9 L k (by omega)];show aJ _ k+4294967296^k*aZ L k=_;rw[h,Nat.mul_zero,Nat.add_zero]
theorem IA {L:List Nat} (ht:AL L) (h:L≠[]):4294967296^(L.length-1)≤wv L:=by
 have h1:=ht h;have hl:L.length≠0:=fun e=>h (List.length_eq_zero_iff.1 e);have e:wv L=aJ (aZ L) (L.length-1)+4294967296^(L.length-1)*aZ L (L.length-1):=by
  unfold wv
  conv=>lhs;rw[show L.length=L.length-1+1 by omega]
  rfl
 have h2:4294967296^(L.length-1)*1≤4294967296^(L.length-1)*aZ L (L.length-1):=Nat.mul_le_mul_left _ (by omega);omega
theorem I8 {L:List Nat} (ht:AL L):wv L=0↔L=[]:=by
 refine⟨fun h=>?_,fun h=>by rw[h];rfl⟩;by_cases e:L=[]
 ·exact e
 have:=IA ht e
 have:=qG (L.length-1);omega
theorem EH {L M:List Nat} (hL:Wok L) (hM:AL M) (h:L.length<M.length):wv L<wv M:=by
 have h1:=MD hL;have fS:M≠[]:=fun e=>by rw[e] at h;simp at h
 have h2:=IA hM fS;have h3:4294967296^L.length≤4294967296^(M.length-1):=Nat.pow_le_pow_right (by decide) (by omega);omega
theorem jM {L:List Nat} (ht:AL L) {k:Nat} (h:wv L<4294967296^k):L.length≤k:=by
 by_cases e:L=[]
 ·rw[e];simp
 have h1:=IA ht e;have hl:L.length≠0:=fun e'=>e (List.length_eq_zero_iff.1 e');by_cases hk:L.length≤k
 ·exact hk
 have h3:4294967296^k≤4294967296^(L.length-1):=Nat.pow_le_pow_right (by decide) (by omega);omega
theorem u9 {f g:Nat→Nat} (hf:∀i,f i < 4294967296) {i:Nat}:∀n,i < n→(∀j,i < j→j < n→f j=g j)→f i < g i→aJ f n < aJ g n
 | 0,h,_,_=>by omega
 | n+1,h,he,aI=>by
  show aJ f n+4294967296^n*f n<aJ g n+4294967296^n*g n;by_cases e:i=n
  ·subst e;have h1:=lT hf i;have h2:4294967296^i*(f i+1)≤4294967296^i*g i:=Nat.mul_le_mul_left _ (by omega);rw[yX] at h2;omega
  have ih:=u9 hf n (by omega) (fun j h1 h2=>he j h1 (by omega)) aI;rw[he n (by omega) (by omega)];omega
theorem iX {L:List Nat} {i j x:Nat} (hi:i<L.length):aZ (L.set i x) j=if j=i then x else aZ L j:=by
 unfold aZ;rw[yO,yO,List.getElem?_set];by_cases e:i=j
 ·subst e;simp[hi]
 rw[if_neg e,if_neg (fun h=>e h.symm)]
theorem ko {L:List Nat} {i x:Nat} (hi:i<L.length):∀k,k≤i→aJ (aZ (L.set i x)) k=aJ (aZ L) k:=fun k hk=>
 jN fun j hj=>by rw[iX hi,if_neg (by omega)]
theorem nj {L:List Nat} {i x:Nat} (hi:i < L.length):∀k,i < k→aJ (aZ (L.set i x)) k + 4294967296^i * aZ L i=aJ (aZ L) k + 4294967296^i * x
 | 0,h=>by omega
 | k+1,h=>by
  show aJ (aZ (L.set i x)) k+4294967296^k*aZ (L.set i x) k+_=aJ (aZ L) k+4294967296^k*aZ L k+_;by_cases e:i=k
  ·subst e;rw[ko hi i (yA _),iX hi,if_pos rfl];omega
  have ih:=nj (x:=x) hi k (by omega);rw[iX hi,if_neg (by omega)];omega
theorem Wok.set {L:List Nat} (h:Wok L) (i:Nat) {x:Nat} (hx:x<4294967296):Wok (L.set i x):=fun y hy=>by
 rcases List.mem_or_eq_of_mem_set hy with h1|h1
 ·exact h y h1
 omega
theorem Wok.zeros (n:Nat):Wok (List.replicate n 0):=fun x hx=>by rw[List.eq_of_mem_replicate hx];decide
theorem rM (n i:Nat):aZ (List.replicate n 0) i=0:=by
 by_cases h:i<n
 ·rw[cJ (by simpa using h)];simp
 exact fY (by simpa using h)
theorem u7 (n:Nat):∀k,aJ (aZ (List.replicate n 0)) k=0
 | 0=>rfl
 | k+1=>by
  show aJ _ k+4294967296^k*aZ _ k=0;rw[rM,u7 n k,Nat.mul_zero]
theorem SL {P s x y c:Nat} {P':Nat} (hP:P'=P*4294967296) (h:s+P*c=x+y) (a b:Nat):s+P*((a+b+c)%4294967296)+P'*((a+b+c)/4294967296)=x+P*a+(y+P*b):=by
 have e:=YI (a+b+c) 4294967296;have h1:P*((a+b+c)%4294967296)+P'*((a+b+c)/4294967296)=P*(a+b+c):=by
  rw[hP,yY,←yX];congr 1
  omega
 have h2:P*(a+b+c)=P*a+P*b+P*c:=by rw[yX,yX]
 omega
theorem MW {P s x y c P' a b d c':Nat} (hP:P'=P*4294967296) (h:s+y=x+P*c) (hd:a+c'*4294967296=d+b+c):s+P*d+(y+P*b)=x+P*a+P'*c':=by
 have h1:P*a+P'*c'=P*d+P*b+P*c:=by
  rw[hP,yY,←yX,Nat.mul_comm 4294967296 c',hd,yX,yX]
 omega
theorem KL {x y o c:Nat} (hx:x<4294967296) (hy:y<4294967296) (ho:o<4294967296) (hc:c<4294967296):x*y+o+c<18446744073709551616∧(x*y+o+c)/4294967296<4294967296:=by
 have h1:x*y≤4294967295*4294967295:=Nat.mul_le_mul (by omega) (by omega);omega
theorem Lk {P s x a b z P':Nat} (hP:P'=P*4294967296) (h:2*s+z=x+P*(a%2)):2*(s+P*(a/2+2147483648*(b%2)))+z=x+P*a+P'*(b%2):=by
 have e:=YI a 2;have h1:P*a=P*(2*(a/2))+P*(a%2):=by rw[←yX,e]
 have h2:P'*(b%2)=P*(4294967296*(b%2)):=by rw[hP,yY]
 have h3:2*(P*(a/2+2147483648*(b%2)))=P*(2*(a/2))+P*(4294967296*(b%2)):=by
  rw[←yX,Nat.mul_left_comm];congr 1
  omega
 rw[yX,h3,h2,h1];omega
theorem AK {X Y:Nat→Nat} {O:List Nat} {k cy z:Nat} (hk:k<O.length) (h:aJ (aZ O) k+4294967296^k*cy=aJ X k+aJ Y k) (hz:z=X k+Y k+cy) :
  aJ (aZ (O.set k (z%4294967296))) (k+1)+4294967296^(k+1)*(z/4294967296)=aJ X (k+1)+aJ Y (k+1):=by
 have e:aJ (aZ (O.set k (z%4294967296))) (k+1)=aJ (aZ O) k+4294967296^k*(z%4294967296):=by
  show aJ _ k+4294967296^k*aZ _ k=_;rw[ko hk k (yA _),iX hk,if_pos rfl]
 rw[e,hz];exact SL (yW _ _) h (X k) (Y k)
theorem V9 {X Y O:List Nat} {cy:Nat} (hX:Wok X) (hY:Wok Y) (hO:O.length=X.length + 1) (QR:Y.length ≤ X.length)
  (h:aJ (aZ O) (X.length+1)+4294967296^(X.length+1)*cy=aJ (aZ X) (X.length+1)+aJ (aZ Y) (X.length+1)):wv O=wv X+wv Y:=by
 have h2:=lT (ia hX) X.length;have h3:=lT (ia hY) X.length;have h4:aJ (aZ X) (X.length+1)=aJ (aZ X) X.length:=rK (fun i hi=>fY hi) _ (by omega);have h5:aJ (aZ Y) (X.length+1)=aJ (aZ Y) X.length:=by rw[tO Y (by omega),tO Y QR]
 have h6:wv Y=aJ (aZ Y) X.length:=(tO Y QR).symm;have h7:wv O=aJ (aZ O) (X.length+1):=by unfold wv;rw[hO]
 have h9:wv X=aJ (aZ X) X.length:=rfl;rw[h7,h6,h9];rw[h4,h5,yW,yY] at h;clear h4 h5 h6 h7 h9 hX hY hO;generalize 4294967296^X.length=P at*;generalize aJ (aZ X) X.length=x at*;generalize aJ (aZ Y) X.length=y at*;generalize aJ (aZ O) (X.length+1)=o at*;rcases Nat.lt_or_ge cy 1 with hc|hc
 ·obtain rfl:cy=0:=by omega
  simpa using h
 have Bg:P*2≤P*(4294967296*cy):=Nat.mul_le_mul_left _ (by omega);omega
theorem tT {X Y:Nat→Nat} {O:List Nat} {k cy d c':Nat} (hk:k<O.length) (h:aJ (aZ O) k+aJ Y k=aJ X k+4294967296^k*cy) (hd:X k+c'*4294967296=d+Y k+cy) :
  aJ (aZ (O.set k d)) (k+1)+aJ Y (k+1)=aJ X (k+1)+4294967296^(k+1)*c':=by
 have e:aJ (aZ (O.set k d)) (k+1)=aJ (aZ O) k+4294967296^k*d:=by
  show aJ _ k+4294967296^k*aZ _ k=_;rw[ko hk k (yA _),iX hk,if_pos rfl]
 rw[e];exact MW (yW _ _) h hd
theorem TY {X Y O:List Nat} {cy:Nat} (hO:Wok O) (hl:O.length=X.length) (QR:Y.length ≤ X.length) (iD:wv Y ≤ wv X)
  (h:aJ (aZ O) X.length+aJ (aZ Y) X.length=aJ (aZ X) X.length+4294967296^X.length*cy):wv O=wv X-wv Y:=by
 have h2:=lT (ia hO) X.length;have h6:aJ (aZ Y) X.length=wv Y:=tO Y QR;have h7:aJ (aZ O) X.length=wv O:=by unfold wv;rw[hl]
 have h9:aJ (aZ X) X.length=wv X:=rfl;rw[h6,h7,h9] at h;rw[h7] at h2;clear h6 h7 h9 hO hl QR;generalize 4294967296^X.length=P at*;generalize wv X=x at*;generalize wv Y=y at*;generalize wv O=o at*;rcases Nat.lt_or_ge cy 1 with hc|hc
 ·obtain rfl:cy=0:=by omega
  rw[Nat.mul_zero] at h;omega
 have Bg:P*1≤P*cy:=Nat.mul_le_mul_left _ hc;omega
def jn (L:List Nat):Nat→Nat
 | 0=>0
 | k+1=>if aZ L k=0 then jn L k else k+1
def gg (L:List Nat):Nat:=jn L L.length
theorem qx (L:List Nat):∀k,k ≤ L.length→jn L k ≤ k ∧ AL (L.take (jn L k)) ∧ wv (L.take (jn L k))=wv (L.take k)
 | 0,_=>⟨yA _,by simp[jn,AL],rfl⟩
 | k+1,hk=>by
  obtain⟨h1,h2,h3⟩:=qx L k (by omega);by_cases e:aZ L k=0
  ·rw[jn,if_pos e];exact⟨by omega,h2,h3.trans (ME (by omega) e).symm⟩
  rw[jn,if_neg e];refine⟨yA _,fun _=>?_,rfl⟩;have hl:(L.take (k+1)).length=k+1:=by rw[YA];omega
  rw[hl,Nat.add_sub_cancel,cJ (by omega),List.getElem_take];rwa [cJ (by omega)] at e
theorem iO (L:List Nat):gg L≤L.length∧AL (L.take (gg L))∧wv (L.take (gg L))=wv L:=by
 have h:=qx L L.length (yA _);rwa [yT] at h
theorem Dc {X:Nat→Nat} {O:List Nat} {k z:Nat} (hk:k<O.length) (h:2*aJ (aZ O) k+z=aJ X k+4294967296^k*(X k%2)) :
  2*aJ (aZ (O.set k (X k/2+2147483648*(X (k+1)%2)))) (k+1)+z=aJ X (k+1)+4294967296^(k+1)*(X (k+1)%2):=by
 have e:aJ (aZ (O.set k (X k/2+2147483648*(X (k+1)%2)))) (k+1)=aJ (aZ O) k+4294967296^k*(X k/2+2147483648*(X (k+1)%2)):=by
  show aJ _ k+4294967296^k*aZ _ k=_;rw[ko hk k (yA _),iX hk,if_pos rfl]
 rw[e];exact Lk (yW _ _) h
theorem Ru {X O:List Nat} (hl:O.length=X.length) (h:2*aJ (aZ O) X.length+aZ X 0%2=aJ (aZ X) X.length+4294967296^X.length*(aZ X X.length%2)):wv O=wv X/2:=by
 have h1:aZ X X.length=0:=fY (yA _);have h2:wv O=aJ (aZ O) X.length:=by unfold wv;rw[hl]
 have h3:wv X=aJ (aZ X) X.length:=rfl;rw[h1,Nat.zero_mod,Nat.mul_zero,←h2,←h3] at h;omega
def dig (Q j:Nat):Nat:=Q/4294967296^j%4294967296
theorem JF (Q:Nat):∀n,aJ (dig Q) n=Q%4294967296^n
 | 0=>by show 0=Q%1;omega
 | n+1=>by
  show aJ (dig Q) n+4294967296^n*dig Q n=_;rw[JF Q n,yW,Nat.mod_mul];rfl
theorem Sj (j:Nat):dig 0 j=0:=by unfold dig;rw[Nat.zero_div]
theorem om (j:Nat):4294967296^j=2^(32*j):=by rw[Nat.pow_mul]
theorem Vq {m i j0 t:Nat} (hi:i=32*j0+t) (ht:t<32) (j:Nat):dig (2^(i+1)*m+2^i) j=if j=j0 then dig (2^(i+1)*m) j+2^t else dig (2^(i+1)*m) j:=by
 unfold dig;rw[om];by_cases e:j=j0
 ·subst e;rw[if_pos rfl];have e1:2^(i+1)*m=2^(32*j)*(2^(t+1)*m):=by rw[←yY,←Nat.pow_add];congr 2;omega
  have e2:(2:Nat)^i=2^(32*j)*2^t:=by rw[←Nat.pow_add];congr 1
  rw[e1,e2,←yX,Nat.mul_div_cancel_left _ (Nat.two_pow_pos _),Nat.mul_div_cancel_left _ (Nat.two_pow_pos _)];have e3:(4294967296:Nat)=2^(t+1)*2^(31-t):=by rw[←Nat.pow_add,show t+1+(31-t)=32 by omega]
  have e4:2^(t+1)*m%4294967296=2^(t+1)*(m%2^(31-t)):=by rw[e3,Nat.mul_mod_mul_left]
  have e5:2^(t+1)*(m%2^(31-t))+2^(t+1)≤4294967296:=by
   have:m%2^(31-t)+1≤2^(31-t):=YJ _ (Nat.two_pow_pos _)
   calc 2^(t + 1) * (m%2^(31 - t)) + 2^(t + 1)=2^(t + 1) * (m%2^(31 - t) + 1) := by rw[yX,Nat.mul_one]
    _≤2^(t+1)*2^(31-t):=Nat.mul_le_mul_left _ this
    _=4294967296:=e3.symm
  have e6:(2:Nat)^(t+1)=2^t+2^t:=by rw[yW];omega
  have e7:=Nat.two_pow_pos t;rw[←Nat.mod_add_mod,e4,Nat.mod_eq_of_lt (by omega)]
 rw[if_neg e];by_cases aI:j<j0
 ·have e2:(2:Nat)^i=2^(32*j)*2^(i-32*j):=by rw[←Nat.pow_add];congr 1;omega
  have e3:(2:Nat)^(i-32*j)=4294967296*2^(i-32*j-32):=by rw[show (4294967296:Nat)=2^32 from rfl,←Nat.pow_add];congr 1;omega
  rw[e2,Nat.add_mul_div_left _ _ (Nat.two_pow_pos _),e3,Nat.add_mul_mod_self_left]
 have e2:(2:Nat)^(32*j)=2^(i+1)*2^(32*j-i-1):=by rw[←Nat.pow_add];congr 1;omega
 have e3:(2:Nat)^i<2^(i+1):=Nat.pow_lt_pow_right (by decide) (by omega);rw[e2,←YB,←YB,Nat.mul_add_div (Nat.two_pow_pos _),Nat.div_eq_of_lt e3,Nat.add_zero,Nat.mul_div_cancel_left _ (Nat.two_pow_pos _)]
theorem Vo {m i j0 t:Nat} (hi:i=32*j0+t) (ht:t<32):dig (2^(i+1)*m) j0 ||| 2^t=dig (2^(i+1)*m) j0+2^t:=by
 unfold dig;rw[om];have e1:2^(i+1)*m=2^(32*j0)*(2^(t+1)*m):=by rw[←yY,←Nat.pow_add];congr 2;omega
 rw[e1,Nat.mul_div_cancel_left _ (Nat.two_pow_pos _)];have e3:(4294967296:Nat)=2^(t+1)*2^(31-t):=by rw[←Nat.pow_add,show t+1+(31-t)=32 by omega]
 have e4:2^(t+1)*m%4294967296=2^(t+1)*(m%2^(31-t)):=by rw[e3,Nat.mul_mod_mul_left]
 rw[e4,Nat.two_pow_add_eq_or_of_lt (Nat.pow_lt_pow_right (by decide) (by omega))]
theorem D6 {A d i r q:Nat} (hq:A/2^(i+1)=q*d+r) (hr:r<d) {b:Nat} (hb:b=A/2^i%2) :
  if d≤2*r+b then A/2^i=(2*q+1)*d+(2*r+b-d)∧2*r+b-d<d else A/2^i=2*q*d+(2*r+b)∧2*r+b<d:=by
 have e:A/2^i=2*(A/2^(i+1))+b:=by
  rw[hb,yW,←YB];omega
 rw[hq,yX,←yY] at e;have bg:b<2:=by omega
 split
 ·rename_i h
  rw[Nat.add_mul,Nat.one_mul];omega
 omega
open Go.RowKit Go.Shelf
theorem x8 (n:Int):IntKind.u32.wrap n=n%4294967296:=by simp[IntKind.wrap,IntKind.bits,IntKind.signed]
theorem tn (a b:Nat) (ha:a<4294967296) (hb:b<4294967296):bits .or .u32 (a:Int) (b:Int)=((a ||| b:Nat):Int):=by
 have hx:a ||| b<2^32:=Nat.or_lt_two_pow (by omega) (by omega);have h1:(BitVec.ofInt 32 (a:Int)).toNat=a:=by
  rw[BitVec.ofInt_natCast,BitVec.toNat_ofNat];exact Nat.mod_eq_of_lt (by omega)
 have h2:(BitVec.ofInt 32 (b:Int)).toNat=b:=by
  rw[BitVec.ofInt_natCast,BitVec.toNat_ofNat];exact Nat.mod_eq_of_lt (by omega)
 show IntKind.u32.wrap ((BitVec.ofInt 32 (a:Int) ||| BitVec.ofInt 32 (b:Int)).toNat:Int)=_;rw[BitVec.toNat_or,h1,h2,x8];omega
theorem US (x y:Nat) (hx:x<4294967296):bits .or .u32 ((x:Int)/2) ((y:Int)*2147483648%4294967296)=((x/2+2147483648*(y%2):Nat):Int):=by
 have e1:((x:Int)/2)=((x/2:Nat):Int):=by omega
 have e2:((y:Int)*2147483648%4294967296)=((2147483648*(y%2):Nat):Int):=by omega
 rw[e1,e2,tn _ _ (by omega) (by omega)];have h:=Nat.two_pow_add_eq_or_of_lt (i:=31) (b:=x/2) (by omega) (y%2);have e3:(2:Nat)^31=2147483648:=by decide
 rw[e3] at h;rw[Nat.or_comm,←h,Nat.add_comm]
theorem L6 {P x s j n:Nat} (hP:P=4294967296^n) (h:j<n):dig (s+P*x) j=dig s j:=by
 unfold dig;have e:P=4294967296^j*(4294967296*4294967296^(n-j-1)):=by
  rw[hP,←Nat.pow_succ',←Nat.pow_add];congr 1
  omega
 rw[e,yY,Nat.add_mul_div_left _ _ (qG j),yY,Nat.add_mul_mod_self_left]
theorem wm {f:Nat→Nat} (hf:∀i,f i < 4294967296):∀ {n j:Nat},j < n→dig (aJ f n) j=f j
 | 0,_,h=>absurd h (by omega)
 | n+1,j,h=>by
  show dig (aJ f n+4294967296^n*f n) j=_;by_cases e:j<n
  ·rw[L6 rfl e,wm hf e]
  obtain rfl:j=n:=by omega
  unfold dig;rw[Nat.add_mul_div_left _ _ (qG j),Nat.div_eq_of_lt (lT hf j),yS,Nat.mod_eq_of_lt (hf j)]
theorem TQ {L:List Nat} (h:Wok L) {j:Nat} (hj:j<L.length):aZ L j=dig (wv L) j:=(wm (ia h) hj).symm
theorem Vp (A j t:Nat) (ht:t<32):dig A j/2^t%2=A/2^(32*j+t)%2:=by
 unfold dig;have e1:A/2^(32*j+t)=A/4294967296^j/2^t:=by rw[Nat.pow_add,←YB,om]
 rw[e1];generalize A/4294967296^j=x;have e2:(4294967296:Nat)=2^t*2^(32-t):=by rw[←Nat.pow_add,show t+(32-t)=32 by omega]
 have e3:(2:Nat)^(32-t)=2*2^(31-t):=by rw[show 32-t=(31-t)+1 by omega,yW,Nat.mul_comm]
 rw[e2,Nat.mod_mul_right_div_self,e3,Nat.mod_mul_right_mod]
theorem S8 {X:List Nat} (h:Wok X) {i:Nat} (hi:i/32<X.length):aZ X (i/32)/2^(i%32)%2=wv X/2^i%2:=by
 rw[TQ h hi,Vp _ _ _ (YJ _ (by decide)),YI]
theorem Sg {x d q r:Nat} (h:x=q*d+r) (hr:r<d):x/d=q∧x%d=r:=(Nat.div_mod_unique (by omega)).2 ⟨by rw[h,Nat.add_comm,Nat.mul_comm],hr⟩
structure DivSt (A d I:Nat) (O:List Nat) (r:Nat):Prop where
 rest:r=A/2^I%d
 o:∀j,aZ O j=dig (2^I*(A/2^I/d)) j
theorem DivSt.start {A d n:Nat} (hA:A<4294967296^n) (m:Nat):DivSt A d (32*n) (List.replicate m 0) 0:=by
 have e:A/2^(32*n)=0:=Nat.div_eq_of_lt (by rwa [←om]);exact⟨by rw[e,Nat.zero_mod],fun j=>by rw[rM,e,Nat.zero_div,Nat.mul_zero,Sj]⟩
theorem DivSt.lt {A d I r:Nat} {O:List Nat} (h:DivSt A d I O r) (hd:0<d):r<d:=by rw[h.rest];exact YJ _ hd
theorem DivSt.yes {A d i r:Nat} {O:List Nat} (hd:0<d) (h:DivSt A d (i+1) O r) (hl:i/32<O.length) {s:Nat} (hs:s=2*r+A/2^i%2) (iD:d≤s) :
  DivSt A d i (O.set (i/32) (aZ O (i/32) ||| 2^(i%32))) (s-d):=by
 subst hs;have hdm:A/2^(i+1)=A/2^(i+1)/d*d+r:=by rw[h.rest,Nat.mul_comm];exact (YI _ _).symm
 have h1:=D6 hdm (h.lt hd) rfl;rw[if_pos iD] at h1;have h2:=Sg h1.1 h1.2;have hi:i=32*(i/32)+i%32:=(YI i 32).symm;have ht:i%32<32:=YJ _ (by decide);generalize hq:A/2^(i+1)/d=q at*;have e2:2^i*(2*q+1)=2^(i+1)*q+2^i:=by rw[yX,Nat.mul_one,yW,yY]
 refine⟨h2.2.symm,fun j=>?_⟩;rw[h2.1,e2,Vq hi ht,iX hl,h.o,h.o];split
 ·rename_i e
  subst e;rw[hq];exact Vo hi ht
 rw[hq]
theorem DivSt.no {A d i r:Nat} {O:List Nat} (hd:0<d) (h:DivSt A d (i+1) O r) {s:Nat} (hs:s=2*r+A/2^i%2) (aI:s<d):DivSt A d i O s:=by
 subst hs;have hdm:A/2^(i+1)=A/2^(i+1)/d*d+r:=by rw[h.rest,Nat.mul_comm];exact (YI _ _).symm
 have h1:=D6 hdm (h.lt hd) rfl;rw[if_neg (by omega)] at h1;have h2:=Sg h1.1 h1.2;generalize hq:A/2^(i+1)/d=q at*;have e2:2^i*(2*q)=2^(i+1)*q:=by rw[yW,yY]
 refine⟨h2.2.symm,fun j=>?_⟩;rw[h2.1,e2,h.o,hq]
theorem DivSt.done {A d r n:Nat} {O:List Nat} (h:DivSt A d 0 O r) (hO:O.length=n) (hA:A<4294967296^n):wv O=A/d:=by
 have e:wv O=aJ (dig (A/d)) n:=by
  unfold wv;rw[hO];refine jN fun i _=>?_;rw[h.o,Nat.pow_zero,Nat.div_one,Nat.one_mul]
 rw[e,JF,Nat.mod_eq_of_lt (Nat.lt_of_le_of_lt (YK _ _) hA)]
theorem vU {a b:Nat} (ha:a%2=0) (hb:b%2=1):Nat.gcd (a/2) b=Nat.gcd a b:=by
 have e:a=2*(a/2):=by omega
 conv=>rhs;rw[e]
 exact (Nat.Coprime.gcd_mul_left_cancel _ (by unfold Nat.Coprime;rw[Nat.gcd_rec,hb];rfl)).symm
theorem Ib {a b:Nat} (ha:a%2=1) (hb:b%2=0):Nat.gcd a (b/2)=Nat.gcd a b:=by
 rw[Nat.gcd_comm,vU hb ha,Nat.gcd_comm]
theorem xr {a b:Nat} (ha:a%2=0) (hb:b%2=0):Nat.gcd a b=2*Nat.gcd (a/2) (b/2):=by
 rw[←Nat.gcd_mul_left];congr 1 <;> omega
theorem RG {a b:Nat} (h:b≤a):Nat.gcd (a-b) b=Nat.gcd a b:=Nat.gcd_sub_self_left h
theorem qN {n d:Int} (hd:d≠0):(Rat.divInt n d).num.natAbs=n.natAbs/Nat.gcd n.natAbs d.natAbs∧(Rat.divInt n d).den=d.natAbs/Nat.gcd n.natAbs d.natAbs:=by
 have hg:Int.gcd d n=Nat.gcd n.natAbs d.natAbs:=by rw[Int.gcd_comm];rfl
 rw[Rat.num_divInt,Rat.den_divInt,if_neg hd,hg];refine⟨?_,rfl⟩;have Lj:((Nat.gcd n.natAbs d.natAbs:Nat):Int)∣d.sign*n:=Int.dvd_mul_of_dvd_right (Int.ofNat_dvd_left.2 (Nat.gcd_dvd_left _ _));rw[Int.natAbs_ediv_of_dvd Lj,Int.natAbs_natCast,Int.natAbs_mul,Int.natAbs_sign_of_ne_zero hd,Nat.one_mul]
theorem Jj {n d:Int} (hd:d≠0) (hn:n≠0):(Rat.divInt n d).num<0↔((n<0∧0<d)∨(0<n∧d<0)):=by
 have hg:Int.gcd d n=Nat.gcd n.natAbs d.natAbs:=by rw[Int.gcd_comm];rfl
 have pc:0<Nat.gcd n.natAbs d.natAbs:=Nat.gcd_pos_of_pos_left _ (by omega);rw[Rat.num_divInt,hg];obtain⟨m,hm⟩:((Nat.gcd n.natAbs d.natAbs:Nat):Int)∣n:=Int.ofNat_dvd_left.2 (Nat.gcd_dvd_left _ _);have UJ:(0:Int)<((Nat.gcd n.natAbs d.natAbs:Nat):Int):=by omega
 generalize ((Nat.gcd n.natAbs d.natAbs:Nat):Int)=g at*;have e:d.sign*n=g*(d.sign*m):=by rw[hm,Int.mul_left_comm]
 have Jt:(n<0↔m<0)∧(0<n↔0<m):=by
  rw[hm];refine⟨⟨fun h=>?_,fun h=>Int.mul_neg_of_pos_of_neg UJ h⟩,⟨fun h=>?_,fun h=>Int.mul_pos UJ h⟩⟩
  ·by_cases h0:0≤m
   ·have:=Int.mul_nonneg (Int.le_of_lt UJ) h0;omega
   omega
  by_cases h0:0<m
  ·exact h0
  have:=Int.mul_nonneg (Int.le_of_lt UJ) (show 0 ≤ -m by omega);rw[Int.mul_neg] at this;omega
 rw[e,Int.mul_ediv_cancel_left _ (by omega)];rcases Int.lt_or_lt_of_ne hd with h|h
 ·rw[Int.sign_eq_neg_one_of_neg h];omega
 rw[Int.sign_eq_one_of_pos h];omega
theorem IQ (a b:Rat):a+b=Rat.divInt (a.num*b.den+b.num*a.den) ((a.den*b.den:Nat):Int):=by rw[Rat.add_def',Rat.divInt_ofNat]
theorem IL (a b:Rat):a*b=Rat.divInt (a.num*b.num) ((a.den*b.den:Nat):Int):=by rw[Rat.mul_def,Rat.divInt_ofNat,Rat.mkRat_def,dif_neg]
theorem IP (a b:Rat):a/b=Rat.divInt (a.num*b.den) (a.den*b.num):=by
 rw[Rat.div_def,Rat.inv_def]
 conv=>lhs;rw[←Rat.num_divInt_den a]
 rw[Rat.divInt_mul_divInt]
theorem Uv {O:List Nat} {n p x y cy R:Nat} (hp:p<O.length) (hn:O.length=n) (h:aJ (aZ O) n+4294967296^p*cy=R) :
  aJ (aZ (O.set p ((x*y+aZ O p+cy)%4294967296))) n+4294967296^(p+1)*((x*y+aZ O p+cy)/4294967296)=R+4294967296^p*(x*y):=by
 have h1:=nj (L:=O) (x:=(x*y+aZ O p+cy)%4294967296) hp n (by omega);have h2:4294967296^p*((x*y+aZ O p+cy)%4294967296)+4294967296^(p+1)*((x*y+aZ O p+cy)/4294967296)=4294967296^p*(x*y+aZ O p+cy):=by
  rw[yW,yY,←yX];congr 1
  have:=YI (x*y+aZ O p+cy) 4294967296;omega
 have h3:4294967296^p*(x*y+aZ O p+cy)=4294967296^p*(x*y)+4294967296^p*aZ O p+4294967296^p*cy:=by rw[yX,yX]
 generalize 4294967296^p*((x*y+aZ O p+cy)%4294967296)=u at*;generalize 4294967296^(p+1)*((x*y+aZ O p+cy)/4294967296)=v at*;generalize 4294967296^p*(x*y)=z at*;generalize 4294967296^p*aZ O p=s at*;generalize 4294967296^p*cy=t at*;omega
theorem Qz {O:List Nat} {n p cy R:Nat} (hp:p<O.length) (hn:O.length=n) (h0:aZ O p=0) (h:aJ (aZ O) n+4294967296^p*cy=R):aJ (aZ (O.set p cy)) n=R:=by
 have h1:=nj (L:=O) (x:=cy) hp n (by omega);rw[h0,Nat.mul_zero] at h1;omega
theorem Ux {i k a x y:Nat} {Y:Nat→Nat} (hy:y=Y k):a+4294967296^i*(x*aJ Y k)+4294967296^(i+k)*(x*y)=a+4294967296^i*(x*aJ Y (k+1)):=by
 have e:aJ Y (k+1)=aJ Y k+4294967296^k*Y k:=rfl;rw[e,hy,yX,yX,Nat.pow_add,Nat.add_assoc];congr 2
 rw[yY,Nat.mul_left_comm x]
theorem Qy {i b:Nat} {X:Nat→Nat}:aJ X i*b+4294967296^i*(X i*b)=aJ X (i+1)*b:=by
 show _=(aJ X i+4294967296^i*X i)*b;rw[Nat.add_mul,yY]
open Go.RowKit Go.Shelf
structure HeldB (W:World) where
 w:World
 h:Below W.heap.size W w
instance (W:World):Nonempty (HeldB W):=⟨⟨W,yB _ _⟩⟩
theorem HeldB.cell {W:World} {b o:Nat} {v:Value} (hc:W.cell? ⟨b,o,none⟩=some v) (x:HeldB W):x.w.cell? ⟨b,o,none⟩=some v :=
 (x.h.cell (p:=⟨b,o,none⟩) (World.block_lt_of_cell? _ _ hc)).trans hc
abbrev YL:=@HeldB.cell
theorem HeldB.call {W:World} {P:Program} {f:FuncId} {args:Array Value} {v:Value} (h:∀w',Below W.heap.size W w'→Calls P f args w' fun e kS=>e=.returned v∧Below w'.heap.size w' kS) (x:HeldB W) :
  Calls P f args x.w fun e kS=>e=.returned v∧∃y:HeldB W,kS=y.w :=
 (h x.w x.h).mono fun _ kS ⟨he,hb⟩=>⟨he,⟨kS,x.h.trans (hb.mono x.h.size)⟩,rfl⟩
theorem HeldB.callq {W:World} {P:Program} {f:FuncId} {args:Array Value} {v:Value} (h:∀w',Below W.heap.size W w'→Calls P f args w' fun e kS=>e=.returned v∧∃q,w'.drewN q=kS) (x:HeldB W) :
  Calls P f args x.w fun e kS=>e=.returned v∧∃y:HeldB W,kS=y.w :=
 (h x.w x.h).mono fun _ kS ⟨he,q,hq⟩=>⟨he,⟨kS,by rw[←hq];exact Zf x.h q⟩,rfl⟩
theorem bJ {P:Program} {id:Nat} {Q:Exit→Act→World→Prop} {a:Act} {w:World} {l:List Oper} (hm:P.follows .mixedOrders=true) (hB:Region.lexB .any l.toArray=true)
  (h:wpQuiet P l.toArray (fun w'=>∃x:HeldB w,w'=x.w) (fun a'=>∀w',(∃x:HeldB w,w'=x.w)→Q .normal a' w') l a):(Code.region id l.toArray true).wp P Q a w :=
 wp_region_quiet (C:=fun w'=>∃x:HeldB w,w'=x.w) hm hB ⟨⟨w.drew,(yB _ _).drew⟩,rfl⟩ (by simpa using h)
section
variable {P:Program} {ops:Array Oper} {md:Region.Mode} {C:World→Prop}
def r5 (P:Program) (md:Region.Mode) (ops:Array Oper) (C:World→Prop) (n:Nat) (L:Array Bool→Act→Prop):Nat→Array Bool→Act→Prop
 | 0,done,a=>L done a
 | f+1,done,a=>¬Region.ready md ops done=[]∧∀i∈Region.ready md ops done,i<n∧qOp P ops C i (r5 P md ops C n L f (done.setIfInBounds i true)) a
theorem DZ {n g:Nat} {L:Array Bool→Act→Prop} {Q:Exit→Act→World→Prop} (hL:∀done a w,C w→L done a→wpAny P md ops Q g done a w) (f:Nat) :
  ∀(done:Array Bool) (a:Act) (w:World),C w→r5 P md ops C n L f done a→wpAny P md ops Q (f+g) done a w:=by
 induction f with
 | zero=>intro done a w hw h;rw[yS];exact hL done a w hw h
 | succ f ih=>
  intro done a w hw h;rw[Nat.succ_add];exact⟨fun e=>absurd e h.1,fun i hi=>wpOp_of_qOp hw (fun a' w' GN h'=>ih _ a' w' GN h') (h.2 i hi).2⟩
theorem Hc {n i:Nat} {o:Oper} {v:Value} {L:Array Bool→Act→Prop} (ho:ops[i]?=some o) (Jy:i < n) (hn:n < ops.size) (jW:∀(j:Nat) (o:Oper) cs b,ops[j]?=some o→o.op ≠ .select cs b)
  (lA:Region.sinkB md ops n=true) (iR:Region.chainB md ops n=true) (hL:∀done a,L done a→∀j∈Region.ready md ops done,n≤j) (f:Nat) :
  ∀(done:Array Bool) (a:Act),HeadInv md ops n done→(∀j oj,ops[j]?=some oj→j≠i→done.getD j true=false→(∀e∈oj.after,Region.binds md e=true→e.on≠i)→o.apart ops oj=true) →
   i∈Region.ready md ops done→YieldsIn P ops C o v a→r5 P md ops C n L f (done.setIfInBounds i true) (a.put o.dst v)→r5 P md ops C n L (f+1) done a:=by
 induction f with
 | zero=>
  intro done a inv Ey hr hy h;have U6:=(mem_ready.1 hr).1;refine⟨(fun e=>by rw[e] at hr;cases hr),fun j hj=>?_⟩;have UF:j<n:=Nat.lt_of_not_le fun iD=>tail_waits lA iR hn inv (n-i) i rfl Jy U6 j iD hj;refine⟨UF,?_⟩;by_cases e:j=i
  ·rw[e];exact hy.qOp ho h
  have:=hL _ _ h j (ready_mono hj e);omega
 | succ f ih=>
  intro done a inv Ey hr hy h;have U6:=(mem_ready.1 hr).1;refine⟨(fun e=>by rw[e] at hr;cases hr),fun j hj=>?_⟩;have UF:j<n:=Nat.lt_of_not_le fun iD=>tail_waits lA iR hn inv (n-i) i rfl Jy U6 j iD hj;refine⟨UF,?_⟩;by_cases e:j=i
  ·rw[e];exact hy.qOp ho h
  have h1:=(h.2 j (ready_mono hj e)).2;obtain⟨Jv,oj,Xy,tI⟩:=mem_ready.1 hj;have tE:∀x∈oj.after,Region.binds md x=true→x.on≠i:=fun x hx hb he=>by
   have h0:=tI x hx hb;rw[he,getD_both U6] at h0;cases h0
  have h2:=qOp_put Xy (Ey j oj Xy e Jv tE) (fun cs b=>jW i o cs b ho) (fun cs b=>jW j oj cs b Xy) hy h1;refine qOp_mono (fun a' h3=>?_) h2;refine ih _ a' (inv.set hj UF) (fun k ok hk CW hku Mq=>?_) (ready_mono hr (Ne.symm e)) h3.1 ?_
  ·refine Ey k ok hk CW ?_ Mq;by_cases Lg:j=k
   ·rw[←Lg];exact Jv
   rwa [getD_set_ne true Lg] at hku
  rw[Array.setIfInBounds_comm _ _ e];exact h3.2
theorem Rm {n g:Nat} {K:Act→Prop} (hn:n<ops.size) (jW:Region.noSelect ops=true) (lA:Region.sinkB md ops n=true) (iR:Region.chainB md ops n=true) (l:List Oper) :
  ∀(k:Nat) (done:Array Bool) (a:Act),k+l.length=n→(∀j,j<l.length→l[j]?=ops[k+j]?)→HeadInv md ops n done→Region.lexHead md ops g l.length k done=true→wpQuiet P ops C K l a →
   r5 P md ops C n (fun Sf a'=>Region.seqB md ops g n Sf=true∧K a') l.length done a:=by
 induction l with
 | nil=>
  intro k done a hk _ _ hB h;obtain rfl:k=n:=by simpa using hk
  exact⟨by simpa[Region.lexHead] using hB,h⟩
 | cons o l ih=>
  intro k done a hk hl inv hB h;have ho:ops[k]?=some o:=by simpa using (hl 0 (by simp)).symm
  rw[List.length_cons] at hk hB;simp only[Region.lexHead,Bool.and_eq_true] at hB;obtain⟨⟨h1,h2⟩,h3⟩:=hB;have hr:k∈Region.ready md ops done:=by simpa using h1
  have hq:qOp P ops C k (wpQuiet P ops C K l) a:=by
   unfold qOp;rw[ho];exact h
  obtain⟨v,hy,hK⟩:=yieldsIn_of_qOp ho hq;have Mq:k<n:=by omega
  refine Hc ho Mq hn (Region.noSelect_spec jW) lA iR (fun _ _ hL=>seqB_ready hL.1) l.length done a inv (Region.free_spec ho h2) hr hy ?_;refine ih (k+1) _ _ (by omega) (fun j hj=>?_) (inv.set hr Mq) h3 hK
  have:=hl (j+1) (by rw[List.length_cons];omega);rw[List.getElem?_cons_succ] at this;rw[this,show k+(j+1)=k+1+j by omega]
theorem t6 {id:Nat} {Q:Exit→Act→World→Prop} {a:Act} {w:World} {l:List Oper} (n:Nat) (hm:P.follows .mixedOrders=true) (hB:Region.lexTailB .any l.toArray n=true) (hC:C w.drew)
  (h:wpQuiet P l.toArray C (fun a'=>∀w',C w'→wpList P l.toArray Q (l.drop n) a' w') (l.take n) a):(Code.region id l.toArray true).wp P Q a w:=by
 simp only[Region.lexTailB,Bool.and_eq_true,decide_eq_true_eq] at hB;obtain⟨⟨⟨⟨jW,hn⟩,lA⟩,iR⟩,qjv⟩:=hB;have UC:n<l.length:=by simpa using hn
 have QU:(l.take n).length=n:=by rw[YA];omega
 have hdl:(l.drop n).length=l.toArray.size-n:=by simp
 have qji:HeadInv .any l.toArray n (Array.replicate l.toArray.size false):=by
  refine⟨by simp,fun j oj _ hj=>?_,fun t _ ht=>getD_in (by simpa using ht) (getD_replicate_false _ _)⟩;rw[getD_replicate_false] at hj;cases hj
 have H:=Rm (md:=.any) (g:=l.toArray.size-n) hn jW lA iR (l.take n) 0 _ a (by omega) (fun j hj=>by
  rw[QU] at hj;simp[hj]) qji (by rw[QU];exact qjv) h
 refine wp_region_any hm ?_;have H2:=DZ (Q:=Q) (g:=l.toArray.size-n) (fun done a' w' GN hL=>by
  have h1:=wpAny_of_seq (md:=.any) (Q':=Q) (l.drop n) n done a' w' (fun j=>by simp[List.getElem?_drop]) (by rw[hdl];exact hL.1) (hL.2 w' GN);rwa [hdl] at h1) _ _ a _ hC H
 rw[QU,show n+(l.toArray.size-n)=l.toArray.size by omega] at H2;exact H2
theorem pw {id:Nat} {Q:Exit→Act→World→Prop} {a:Act} {w:World} {l:List Oper} (n:Nat) (hm:P.follows .mixedOrders=true) (hB:Region.lexTailB .any l.toArray n=true)
  (h:wpQuiet P l.toArray (fun w'=>∃x:HeldB w,w'=x.w) (fun a'=>∀w',(∃x:HeldB w,w'=x.w)→wpList P l.toArray Q (l.drop n) a' w') (l.take n) a):(Code.region id l.toArray true).wp P Q a w :=
 t6 (C:=fun w'=>∃x:HeldB w,w'=x.w) n hm hB ⟨⟨w.drew,(yB _ _).drew⟩,rfl⟩ h
end
abbrev aV:=Tmp→World→Prop
def iC (F:aV) (d:Option Tmp) (p:World→Prop):aV:=fun k w=>if d=some k then p w else F k w
def AO (p:World→Prop):Prop:=∀w w',Below w.heap.size w w'→p w→p w'
def kF (ops:Array Oper) (o:Oper) (F:aV) (w:World):Prop:=∀k∈o.looksAt ops,F k w
theorem rV {F:aV} {d e:Option Tmp} {p q:World→Prop} (h:∀x,d=some x→e≠some x):iC (iC F d p) e q=iC (iC F e q) d p:=by
 funext k w
 unfold iC;by_cases h1:d=some k
 ·rw[if_neg (h k h1),if_pos h1,if_pos h1]
 by_cases h2:e=some k
 ·rw[if_pos h2,if_neg h1,if_pos h2]
 rw[if_neg h2,if_neg h1,if_neg h1,if_neg h2]
theorem mr {ops:Array Oper} {o:Oper} {F:aV} {d:Option Tmp} {p:World→Prop} (h:∀x,d=some x→x∉o.looksAt ops):kF ops o (iC F d p)=kF ops o F:=by
 funext w
 unfold kF iC;refine propext ⟨fun H k hk=>?_,fun H k hk=>?_⟩
 ·have:=H k hk;rwa [if_neg (fun e=>h k e hk)] at this
 rw[if_neg (fun e=>h k e hk)];exact H k hk
def rO (o:Oper):Bool :=
 match o.op with
 | .move _|.assign _|.load _ _|.fieldAddr _ _ _|.indexAddr _ _ _|.binOp _ _ _ _ _|.unOp _ _ _|.convert _ _ _|.build _ _|.extract _ _|.index _ _ _|.field _ _ _|.slice _ _ _ _ _=>true
 | .call c=>match c.callee with
  | .builtin .len=>true
  | _=>false
 | _=>false
theorem Kx {P:Program} {s:Sem Value} {w w':World} {n:Next} (h:(do pure (Next.value (←s)):Sem Next).run P w=.ok n w'):∃u,n=.value u:=by
 rw[Sem.run_bind] at h
 cases hs:s.run P w with
 | ok u w2=>
  rw[hs] at h;simp only[Result.andThen,Sem.run_pure] at h;injection h with h1 _;exact⟨u,h1.symm⟩
 | halt x w2=>
  rw[hs] at h;simp only[Result.andThen] at h;cases h
theorem Qv {P:Program} {o:Oper} (hs:rO o=true) {ρ:Operand→Value} {w w':World} {f:FuncId} {args:Array Value}:(execOp ρ o).run P w ≠ .ok (.enter f args) w':=by
 intro h;have key:∀ {s:Sem Value} {n:Next},(do pure (Next.value (←s)):Sem Next).run P w=.ok n w'→n=.enter f args→False:=fun h he=>by
  obtain⟨u,hu⟩:=Kx h;rw[hu] at he;cases he
 unfold rO at hs;unfold execOp at h;cases ho:o.op <;> rw[ho] at hs h <;> first
  | (cases hs;done)
  | (exact key h rfl)
  | (simp only[Sem.run_pure] at h;injection h with h1 _;cases h1;done)
  | skip
 rename_i c
 dsimp only at hs h
 cases hc:c.callee with
 | builtin b=>
  rw[hc] at hs;cases b <;> first
   | (cases hs;done)
   | skip
  simp only[resolve,hc,Sem.run_bind,Sem.run_pure,Result.andThen_ok,invoke,builtin] at h;exact key (s:=Builtin.len_ c.argTypes o.type (c.args.map ρ)) (by rw[Sem.run_bind];exact h) rfl
 | invoke r n=>rw[hc] at hs;cases hs
 | value v=>rw[hc] at hs;cases hs
structure GPost where
 σ:Value→Prop
 φ:Value→World→Prop
 ne:∃v,σ v
 st:∀v,AO (φ v)
 fr:Bool:=false
def rz:Value→Option Nat
 | .pointer (some p)=>some p.block
 | .slice (some p) _ _=>some p.block
 | _=>none
def mK (D:List Tmp) (a:Act) (w:World):Prop:=∀d∈D,∀b,rz (a.eval (.tmp d))=some b→b<w.heap.size∧∀e∈D,e≠d→rz (a.eval (.tmp e))≠some b
theorem nT (a:Act) (dst:Option Tmp) (v:Value) (d:Tmp):(a.put dst v).eval (.tmp d)=a.eval (.tmp d)∨(dst=some d∧(a.put dst v).eval (.tmp d)=v):=by
 cases dst with
 | none=>exact .inl rfl
 | some e=>
  show (a.tmps.setIfInBounds e v).getD d undef=a.tmps.getD d undef∨_∧(a.tmps.setIfInBounds e v).getD d undef=v;rw[Array.getD_eq_getD_getElem?,Array.getD_eq_getD_getElem?,Array.getElem?_setIfInBounds];by_cases h:e=d
  ·subst h;by_cases h2:e<a.tmps.size
   ·exact .inr ⟨rfl,by simp[h2]⟩
   exact .inl (by simp[h2])
  exact .inl (by simp[h])
theorem mH {D:List Tmp} {a:Act} {w w':World} {dst:Option Tmp} {v:Value} (h:mK D a w) (hs:w.heap.size≤w'.heap.size) (hd:∀d,dst=some d→d∈D→rz v=none):mK D (a.put dst v) w':=fun d hdD b hb=>by
 rcases nT a dst v d with e|⟨e1,e2⟩
 ·rw[e] at hb;obtain⟨h1,h2⟩:=h d hdD b hb;refine⟨yK h1 hs,fun x hx fS=>?_⟩;rcases nT a dst v x with f|⟨f1,f2⟩
  ·rw[f];exact h2 x hx fS
  rw[f2,hd x f1 hx];simp
 rw[e2,hd d e1 hdD] at hb;cases hb
theorem LM {D:List Tmp} {a:Act} {w w':World} {d:Option Tmp} {v:Value} {b:Nat} (h:mK D a w) (hv:rz v=some b) (h1:w.heap.size≤b) (h2:b<w'.heap.size) (hs:w.heap.size≤w'.heap.size):mK D (a.put d v) w':=fun x hxD c hc=>by
 rcases nT a d v x with e|⟨e1,e2⟩
 ·rw[e] at hc;obtain⟨h3,h4⟩:=h x hxD c hc;refine⟨yK h3 hs,fun y hy fS=>?_⟩;rcases nT a d v y with f|⟨f1,f2⟩
  ·rw[f];exact h4 y hy fS
  rw[f2,hv];intro he;injection he with he;omega
 rw[e2,hv] at hc;injection hc with hc;subst hc;refine⟨h2,fun y hy fS=>?_⟩;rcases nT a d v y with f|⟨f1,f2⟩
 ·rw[f];intro he
  have:=(h y hy _ he).1;omega
 rw[e1] at f1;injection f1 with f1;exact absurd f1.symm fS
section
variable {P:Program} {ops:Array Oper} {md:Region.Mode} {W:World} {Φ:Nat→Option GPost}
def oI (P:Program) (o:Oper) (a:Act) (φ:GPost) (w:World):Prop :=
 ∃f args,(execOp a.eval o).run P w=.ok (.enter f args) w∧Calls P f args w fun e kS=>∃v,e=.returned v∧Below w.heap.size w kS∧φ.σ v∧φ.φ v kS
theorem zc {P:Program} {o:Oper} {a:Act} {φ:GPost} {w:World} {f:Nat} {g:Array Value} (h:Calls P f g w fun e kS=>∃v,e=.returned v∧Below w.heap.size w kS∧φ.σ v∧φ.φ v kS) (x:(execOp a.eval o).run P w=.ok (.enter f g) w:=by go_simp):oI P o a φ w:=⟨f,g,x,h⟩
theorem zk {p:Prop} [Decidable p] (h:decide p=true:=by kernel_rfl):p:=yG h
def jv (P:Program) (o:Oper) (a:Act) (φ:GPost) (w:World):Prop :=
 ∃v w',(execOp a.eval o).run P w=.ok (.value v) w'∧Below w.heap.size w w'∧φ.σ v∧φ.φ v w'∧(φ.fr=true→∃b,rz v=some b∧w.heap.size≤b∧b<w'.heap.size)
def tX (P:Program) (o:Oper) (a:Act) (φ:GPost) (w:World):Prop:=(φ.fr=false∧oI P o a φ w)∨jv P o a φ w
def nD (w:World) (v:Value):Result Next→Prop
 | .ok (.value u) w'=>w'=w∧u=v
 | .ok .skip w'=>w'=w∧v=undef
 | _=>False
def pI (P:Program) (W:World) (o:Oper) (a:Act) (v:Value):Prop:=∀w,Below W.heap.size W w→nD w v ((execOp a.eval o).run P w)
theorem xN {C:World→Prop} (hC:∀w,Below W.heap.size W w→C w) {o:Oper} {a:Act} {v:Value} (hs:rO o=true) (h:∀w,C w→o.quietAt P a C w v):pI P W o a v:=fun w hw=>by
 have h1:=h w (hC w hw);have h2:=fun f args w'=>Qv (P:=P) (o:=o) hs (ρ:=a.eval) (w:=w) (w':=w') (f:=f) (args:=args);unfold Oper.quietAt at h1;generalize (execOp a.eval o).run P w=r at*
 cases r with
 | ok n w'=>
  cases n <;> simp only[Oper.quietUpon] at h1
  case value u=>exact h1
  case skip=>exact h1
  case enter f args=>exact absurd rfl (h2 f args w')
 | halt x w'=>simp only[Oper.quietUpon] at h1
def cj (P:Program) (ops:Array Oper) (W:World) (o:Oper) (φ:Option GPost) (K:Act→aV→Prop) (a:Act) (F:aV):Prop :=
 if Region.wanted o (yielded ops a.tmps)=true then
  match φ with
  | none=>∃v,pI P W o a v∧K (a.put o.dst v) (iC F o.dst (kF ops o F))
  | some φ=>(∀w,Below W.heap.size W w→kF ops o F w→tX P o a φ w)∧∀v,φ.σ v→K (a.put o.dst v) (iC F o.dst (φ.φ v))
 else K (a.put o.dst undef) (iC F o.dst fun _=>True)
theorem mC {o:Oper} {φ:Option GPost} {K K':Act→aV→Prop} {a:Act} {F:aV} (h:∀a F,K a F→K' a F) (hh:cj P ops W o φ K a F):cj P ops W o φ K' a F:=by
 unfold cj at*;split
 ·rename_i hw
  rw[if_pos hw] at hh
  cases φ with
  | none=>
   obtain⟨v,h1,h2⟩:=hh;exact⟨v,h1,h _ _ h2⟩
  | some φ=>exact⟨hh.1,fun v hv=>h _ _ (hh.2 v hv)⟩
 rename_i hw
 rw[if_neg hw] at hh;exact h _ _ hh
theorem Ic {o:Oper} {φ:Option GPost} {K:Act→aV→Prop} {a:Act} {F:aV} (hh:cj P ops W o φ K a F):∃a' F',K a' F':=by
 unfold cj at hh;split at hh
 ·cases φ with
  | none=>
   obtain⟨v,-,h2⟩:=hh;exact⟨_,_,h2⟩
  | some φ=>exact⟨_,_,hh.2 _ φ.ne.choose_spec⟩
 exact⟨_,_,hh⟩
theorem KE {o:Oper} {a:Act} {u v:Value} (h1:pI P W o a u) (h2:pI P W o a v):u=v:=by
 have e1:=h1 W (yB _ _);have e2:=h2 W (yB _ _);generalize (execOp a.eval o).run P W=r at*
 cases r with
 | ok n w'=>
  cases n <;> simp only[nD] at e1 e2
  case value x=>rw[←e1.2,←e2.2]
  rw[e1.2,e2.2]
 | halt x w'=>simp only[nD] at e1
theorem tg {o:Oper} {φ:Option GPost} {K K':Act→aV→Prop} {a:Act} {F:aV} (hh:cj P ops W o φ K a F) (h:∀v p,K (a.put o.dst v) (iC F o.dst p)→K' (a.put o.dst v) (iC F o.dst p)):cj P ops W o φ K' a F:=by
 unfold cj at*;split
 ·rename_i hw
  rw[if_pos hw] at hh
  cases φ with
  | none=>
   obtain⟨v,h1,h2⟩:=hh;exact⟨v,h1,h _ _ h2⟩
  | some φ=>exact⟨hh.1,fun v hv=>h _ _ (hh.2 v hv)⟩
 rename_i hw
 rw[if_neg hw] at hh;exact h _ _ hh
theorem Lq {o:Oper} {φ:Option GPost} {ι:Type} (x0:ι) {K:ι→Act→aV→Prop} {K':Act→aV→Prop} {a:Act} {F:aV} (hh:∀x,cj P ops W o φ (K x) a F) (h:∀v p,(∀x,K x (a.put o.dst v) (iC F o.dst p))→K' (a.put o.dst v) (iC F o.dst p)):cj P ops W o φ K' a F:=by
 unfold cj at*;split
 ·rename_i hw
  simp only[if_pos hw] at hh
  cases φ with
  | none=>
   obtain⟨v,h1,-⟩:=hh x0;refine⟨v,h1,h _ _ fun x=>?_⟩;obtain⟨u,h3,h4⟩:=hh x;rw[KE h1 h3];exact h4
  | some φ=>exact⟨(hh x0).1,fun v hv=>h _ _ fun x=>(hh x).2 v hv⟩
 rename_i hw
 simp only[if_neg hw] at hh;exact h _ _ hh
theorem vy {o:Oper} (jW:∀cs b,o.op ≠ .select cs b) {a:Act} {d:Option Tmp} {u v:Value} (h:∀x,d=some x→x∉o.looksAt ops):pI P W o (a.put d u) v↔pI P W o a v:=by
 unfold pI;rw[execOp_put o jW a d u h]
theorem sW {o:Oper} (jW:∀cs b,o.op ≠ .select cs b) {a:Act} {d:Option Tmp} {u:Value} {φ:GPost} {w:World} (h:∀x,d=some x→x∉o.looksAt ops):tX P o (a.put d u) φ w↔tX P o a φ w:=by
 unfold tX oI jv;rw[execOp_put o jW a d u h]
theorem Kr {oi oj:Oper} {φi φj:Option GPost} (Ey:oi.apart ops oj=true) (hsi:∀cs b,oi.op ≠ .select cs b) (hsj:∀cs b,oj.op ≠ .select cs b) {K:Act→aV→Prop} {a:Act} {F:aV}
  (h:cj P ops W oi φi (fun a F=>cj P ops W oj φj K a F) a F):cj P ops W oj φj (fun a F=>cj P ops W oi φi K a F) a F:=by
 obtain⟨h1,h2,h3⟩:=Oper.apart_spec Ey;have h2':∀x,oi.dst=some x→oj.dst≠some x:=h2
 -- what j sees behind i
 have J:∀v p,cj P ops W oj φj K (a.put oi.dst v) (iC F oi.dst p)→cj P ops W oj φj (fun a' F'=>K (a'.put oi.dst v) (iC F' oi.dst p)) a F:=fun v p hh=>by
  unfold cj at hh⊢;rw[wanted_put oj a oi.dst v h1] at hh;split
  ·rename_i hw
   rw[if_pos hw] at hh
   cases φj with
   | none=>
    obtain⟨u,q,k⟩:=hh;rw[mr h1,Act.put_comm a v u h2,rV h2'] at k;exact⟨u,(vy hsj h1).1 q,k⟩
   | some φ=>
    refine⟨fun w QS hk=>(sW hsj h1).1 (hh.1 w QS (by rw[mr h1];exact hk)),fun u hu=>?_⟩;have k:=hh.2 u hu;rw[Act.put_comm a v u h2,rV h2'] at k;exact k
  rename_i hw
  rw[if_neg hw] at hh;rw[Act.put_comm a v undef h2,rV h2'] at hh;exact hh
 unfold cj at h;by_cases hwi:Region.wanted oi (yielded ops a.tmps)=true
 ·rw[if_pos hwi] at h
  cases φi with
  | none=>
   obtain⟨v,hq,h⟩:=h;refine tg (J v _ h) fun u p hK=>?_;unfold cj;rw[wanted_put oi a oj.dst u h3,if_pos hwi];refine⟨v,(vy hsi h3).2 hq,?_⟩;rw[mr h3];exact hK
  | some φ=>
   obtain⟨hc,h⟩:=h;have hJ:=fun v:{v:Value // φ.σ v}=>J v.1 _ (h v.1 v.2);refine Lq ⟨φ.ne.choose,φ.ne.choose_spec⟩ hJ fun u p hK=>?_;unfold cj;rw[wanted_put oi a oj.dst u h3,if_pos hwi];exact⟨fun w QS hk=>(sW hsi h3).2 (hc w QS (by rwa [mr h3] at hk)),fun v hv=>hK ⟨v,hv⟩⟩
 rw[if_neg hwi] at h;refine tg (J undef _ h) fun u p hK=>?_;unfold cj;rw[wanted_put oi a oj.dst u h3,if_neg hwi];exact hK
def gAt (P:Program) (ops:Array Oper) (W:World) (Φ:Nat→Option GPost) (i:Nat) (K:Act→aV→Prop) (a:Act) (F:aV):Prop :=
 match ops[i]? with
 | none=>K a F
 | some o=>cj P ops W o (Φ i) K a F
def Iy (P:Program) (md:Region.Mode) (ops:Array Oper) (W:World) (Φ:Nat→Option GPost) (n:Nat) (L:Array Bool→Act→aV→Prop):Nat→Array Bool→Act→aV→Prop
 | 0,done,a,F=>L done a F
 | f+1,done,a,F=>¬Region.ready md ops done=[]∧∀i∈Region.ready md ops done,i<n∧gAt P ops W Φ i (Iy P md ops W Φ n L f (done.setIfInBounds i true)) a F
theorem qB {F:aV} (hF:∀k,AO (F k)) {d:Option Tmp} {p:World→Prop} (hp:AO p) (k:Tmp):AO (iC F d p k):=by
 unfold iC;intro w w' hb h;by_cases e:d=some k
 ·rw[if_pos e] at h⊢;exact hp w w' hb h
 rw[if_neg e] at h⊢;exact hF k w w' hb h
theorem EU {F:aV} (hF:∀k,AO (F k)) (o:Oper):AO (kF ops o F):=fun w w' hb h k hk=>hF k w w' hb (h k hk)
theorem put_holds {F:aV} {d:Option Tmp} {p:World→Prop} {w:World} (hF:∀k,F k w) (hp:p w) (k:Tmp):iC F d p k w:=by
 unfold iC;by_cases e:d=some k
 ·rw[if_pos e];exact hp
 rw[if_neg e];exact hF k
theorem Bv {i:Nat} {K:Act→aV→Prop} {K':Act→World→Prop} {Q:Exit→Act→World→Prop} {a:Act} {F:aV} {w:World} {D:List Tmp} (hD:∀o d,ops[i]?=some o→o.dst=some d→d∈D→∃ φ,Φ i=some φ ∧ φ.fr=true) (hA:mK D a w) (hw:Below W.heap.size W w) (hs:∀k,AO (F k)) (hF:∀k,F k w)
  (h:∀a' F' w',Below W.heap.size W w'→(∀k,AO (F' k))→(∀k,F' k w')→mK D a' w'→K a' F'→K' a' w') (hh:gAt P ops W Φ i K a F):wpOp P ops Q i K' a w:=by
 unfold gAt at hh;unfold wpOp;split
 ·rename_i ho
  rw[ho] at hh;exact h _ _ _ hw hs hF hA hh
 rename_i o ho
 rw[ho] at hh;simp only[cj] at hh;split
 ·rename_i hwn
  rw[if_pos hwn] at hh;refine .inl ?_
  cases hφ:Φ i with
  | none=>
   rw[hφ] at hh;obtain⟨v,hq,hK⟩:=hh;have h3:=hq w hw;unfold Oper.wp;have hk:=h _ _ w hw (qB hs (EU hs o)) (put_holds hF (fun k _=>hF k)) (mH hA (yA _) (fun d e1 e2=>by
    obtain⟨φ,e3,-⟩:=hD o d ho e1 e2;rw[hφ] at e3;cases e3)) hK
   generalize (execOp a.eval o).run P w=r at*
   cases r with
   | ok n w'=>
    cases n <;> simp only[nD] at h3 <;> simp only[Oper.upon]
    case value u=>
     obtain⟨e1,e2⟩:=h3;rw[e1,e2];exact hk
    obtain⟨e1,e2⟩:=h3;rw[e1,←e2];exact hk
   | halt x w'=>simp only[nD] at h3
  | some φ=>
   rw[hφ] at hh;rcases hh.1 w hw (fun k _=>hF k) with⟨hfr,f,args,ki,hc⟩|⟨v,kS,ki,hb,hσ,hv,bO⟩
   ·unfold Oper.wp;rw[ki];simp only[Oper.upon];refine hc.mono ?_;rintro e kS ⟨v,rfl,hb,hσ,hv⟩;exact h _ _ kS (hw.trans (hb.mono hw.size)) (qB hs (φ.st v)) (put_holds (fun k=>hs k w kS hb (hF k)) hv) (mH hA hb.size (fun d e1 e2=>by
     obtain⟨φ',e3,e4⟩:=hD o d ho e1 e2;rw[hφ] at e3;injection e3 with e3;subst e3;rw[hfr] at e4;cases e4)) (hh.2 v hσ)
   unfold Oper.wp;rw[ki];simp only[Oper.upon];refine h _ _ kS (hw.trans (hb.mono hw.size)) (qB hs (φ.st v)) (put_holds (fun k=>hs k w kS hb (hF k)) hv) ?_ (hh.2 v hσ);cases hf:φ.fr
   case true=>
    obtain⟨b,h1,h2,h3⟩:=bO hf;exact LM hA h1 h2 h3 hb.size
   refine mH hA hb.size (fun d e1 e2=>?_);obtain⟨φ',e3,e4⟩:=hD o d ho e1 e2;rw[hφ] at e3;injection e3 with e3;subst e3;rw[hf] at e4;cases e4
 rename_i hwn
 rw[if_neg hwn] at hh;exact h _ _ w hw (qB hs (fun _ _ _ h=>h)) (put_holds hF trivial) (mH hA (yA _) (fun _ _ _=>rfl)) hh
theorem SI {n g:Nat} {L:Array Bool→Act→aV→Prop} {Q:Exit→Act→World→Prop} {D:List Tmp} (hD:∀i o d,ops[i]?=some o→o.dst=some d→d∈D→∃ φ,Φ i=some φ∧φ.fr=true) (hL:∀done a F w,Below W.heap.size W w→(∀k,F k w)→mK D a w→L done a F→wpAny P md ops Q g done a w) (f:Nat) :
  ∀(done:Array Bool) (a:Act) (F:aV) (w:World),mK D a w→Below W.heap.size W w→(∀k,AO (F k))→(∀k,F k w)→Iy P md ops W Φ n L f done a F→wpAny P md ops Q (f+g) done a w:=by
 induction f with
 | zero=>intro done a F w hA hw _ hF h;rw[yS];exact hL done a F w hw hF hA h
 | succ f ih=>
  intro done a F w hA hw hs hF h;rw[Nat.succ_add];exact⟨fun e=>absurd e h.1,fun i hi=>Bv (hD i) hA hw hs hF (fun a' F' w' GN hs' hF' hA' h'=>ih _ a' F' w' hA' GN hs' hF' h') (h.2 i hi).2⟩
theorem Vh {n i:Nat} {o:Oper} {L:Array Bool→Act→aV→Prop} (ho:ops[i]?=some o) (Jy:i < n) (hn:n < ops.size) (jW:∀(j:Nat) (o:Oper) cs b,ops[j]?=some o→o.op ≠ .select cs b)
  (lA:Region.sinkB md ops n=true) (iR:Region.chainB md ops n=true) (hL:∀done a F,L done a F→∀j∈Region.ready md ops done,n≤j) (f:Nat) :
  ∀(done:Array Bool) (a:Act) (F:aV),HeadInv md ops n done→(∀j oj,ops[j]?=some oj→j≠i→done.getD j true=false→(∀e∈oj.after,Region.binds md e=true→e.on≠i)→o.apart ops oj=true) →
   i∈Region.ready md ops done→cj P ops W o (Φ i) (Iy P md ops W Φ n L f (done.setIfInBounds i true)) a F→Iy P md ops W Φ n L (f+1) done a F:=by
 have Ex:∀ {K:Act→aV→Prop} {a:Act} {F:aV},cj P ops W o (Φ i) K a F→gAt P ops W Φ i K a F:=fun h=>by
  unfold gAt;rw[ho];exact h
 induction f with
 | zero=>
  intro done a F inv Ey hr h;have U6:=(mem_ready.1 hr).1;refine⟨(fun e=>by rw[e] at hr;cases hr),fun j hj=>?_⟩;have UF:j<n:=Nat.lt_of_not_le fun iD=>tail_waits lA iR hn inv (n-i) i rfl Jy U6 j iD hj;refine⟨UF,?_⟩;by_cases e:j=i
  ·rw[e];exact Ex h
  obtain⟨a',F',h'⟩:=Ic h
  have:=hL _ _ _ h' j (ready_mono hj e);omega
 | succ f ih=>
  intro done a F inv Ey hr h;have U6:=(mem_ready.1 hr).1;refine⟨(fun e=>by rw[e] at hr;cases hr),fun j hj=>?_⟩;have UF:j<n:=Nat.lt_of_not_le fun iD=>tail_waits lA iR hn inv (n-i) i rfl Jy U6 j iD hj;refine⟨UF,?_⟩;by_cases e:j=i
  ·rw[e];exact Ex h
  obtain⟨Jv,oj,Xy,tI⟩:=mem_ready.1 hj;have tE:∀x∈oj.after,Region.binds md x=true→x.on≠i:=fun x hx hb he=>by
   have h0:=tI x hx hb;rw[he,getD_both U6] at h0;cases h0
  have h2:cj P ops W o (Φ i) (fun a F=>cj P ops W oj (Φ j) (Iy P md ops W Φ n L f ((done.setIfInBounds i true).setIfInBounds j true)) a F) a F:=mC (fun a' F' h'=>by
   have h3:=(h'.2 j (ready_mono hj e)).2;unfold gAt at h3;rw[Xy] at h3;exact h3) h
  have h4:=Kr (Ey j oj Xy e Jv tE) (fun cs b=>jW i o cs b ho) (fun cs b=>jW j oj cs b Xy) h2;have h5:cj P ops W oj (Φ j) (Iy P md ops W Φ n L (f+1) (done.setIfInBounds j true)) a F:=mC (fun a' F' h'=>by
   refine ih _ a' F' (inv.set hj UF) (fun k ok hk CW hku Mq=>?_) (ready_mono hr (Ne.symm e)) ?_
   ·refine Ey k ok hk CW ?_ Mq;by_cases Lg:j=k
    ·rw[←Lg];exact Jv
    rwa [getD_set_ne true Lg] at hku
   rw[Array.setIfInBounds_comm _ _ e];exact h') h4
  unfold gAt;rw[Xy];exact h5
def tA (P:Program) (ops:Array Oper) (W:World) (Φ:Nat→Option GPost) (K:Act→aV→Prop):Nat→List Oper→Act→aV→Prop
 | _,[],a,F=>K a F
 | k,o::r,a,F=>cj P ops W o (Φ k) (tA P ops W Φ K (k+1) r) a F
theorem qjS {n g:Nat} {K:Act→aV→Prop} (hn:n<ops.size) (jW:Region.noSelect ops=true) (lA:Region.sinkB md ops n=true) (iR:Region.chainB md ops n=true) (l:List Oper) :
  ∀(k:Nat) (done:Array Bool) (a:Act) (F:aV),k+l.length=n→(∀j,j<l.length→l[j]?=ops[k+j]?)→HeadInv md ops n done→Region.lexHead md ops g l.length k done=true→tA P ops W Φ K k l a F →
   Iy P md ops W Φ n (fun Sf a' F'=>Region.seqB md ops g n Sf=true∧K a' F') l.length done a F:=by
 induction l with
 | nil=>
  intro k done a F hk _ _ hB h;obtain rfl:k=n:=by simpa using hk
  exact⟨by simpa[Region.lexHead] using hB,h⟩
 | cons o l ih=>
  intro k done a F hk hl inv hB h;have ho:ops[k]?=some o:=by simpa using (hl 0 (by simp)).symm
  rw[List.length_cons] at hk hB;simp only[Region.lexHead,Bool.and_eq_true] at hB;obtain⟨⟨h1,h2⟩,h3⟩:=hB;have hr:k∈Region.ready md ops done:=by simpa using h1
  have Mq:k<n:=by omega
  refine Vh ho Mq hn (Region.noSelect_spec jW) lA iR (fun _ _ _ hL=>seqB_ready hL.1) l.length done a F inv (Region.free_spec ho h2) hr ?_;refine mC (fun a' F' h'=>?_) h;refine ih (k+1) _ _ _ (by omega) (fun j hj=>?_) (inv.set hr Mq) h3 h'
  have:=hl (j+1) (by rw[List.length_cons];omega);rw[List.getElem?_cons_succ] at this;rw[this,show k+(j+1)=k+1+j by omega]
def Uu (ops:List Oper) (Φ:Nat→Option GPost) (D:List Tmp):Bool:=(List.range ops.length).all fun k=>match ops[k]? with
 | some o=>match o.dst with
  | some d=>!(D.contains d)||(match Φ k with|some φ=>φ.fr|none=>false)
  | none=>true
 | none=>true
theorem KJ {l:List Oper} {D:List Tmp} (h:Uu l Φ D=true):∀i o d,l.toArray[i]?=some o→o.dst=some d→d∈D→∃ φ,Φ i=some φ∧φ.fr=true:=fun i o d ho hd hm=>by
 have hi:i<l.length:=by
  rcases Nat.lt_or_ge i l.length with h|h
  ·exact h
  rw[List.getElem?_toArray,List.getElem?_eq_none h] at ho;cases ho
 have h1:=List.all_eq_true.1 h i (List.mem_range.2 hi);rw[List.getElem?_toArray] at ho;simp only[ho,hd] at h1;have h2:D.contains d=true:=by simpa using hm
 rw[h2] at h1
 cases hφ:Φ i with
 | none=>rw[hφ] at h1;cases h1
 | some φ=>rw[hφ] at h1;exact⟨φ,rfl,by simpa using h1⟩
theorem dt {id:Nat} {Q:Exit→Act→World→Prop} {a:Act} {w:World} {l:List Oper} (n:Nat) (Φ:Nat→Option GPost) (D:List Tmp) (hm:P.follows .mixedOrders=true) (hB:Region.lexTailB .any l.toArray n=true) (hD:Uu l Φ D=true) (h0:∀d∈D,rz (a.eval (.tmp d))=none)
  (h:tA P l.toArray w Φ (fun a' F'=>∀w',Below w.heap.size w w'→(∀k,F' k w')→mK D a' w'→wpList P l.toArray Q (l.drop n) a' w') 0 (l.take n) a fun _ _=>True):(Code.region id l.toArray true).wp P Q a w:=by
 simp only[Region.lexTailB,Bool.and_eq_true,decide_eq_true_eq] at hB;obtain⟨⟨⟨⟨jW,hn⟩,lA⟩,iR⟩,qjv⟩:=hB;have UC:n<l.length:=by simpa using hn
 have QU:(l.take n).length=n:=by rw[YA];omega
 have hdl:(l.drop n).length=l.toArray.size-n:=by simp
 have qji:HeadInv .any l.toArray n (Array.replicate l.toArray.size false):=by
  refine⟨by simp,fun j oj _ hj=>?_,fun t _ ht=>getD_in (by simpa using ht) (getD_replicate_false _ _)⟩;rw[getD_replicate_false] at hj;cases hj
 have H:=qjS (md:=.any) (g:=l.toArray.size-n) hn jW lA iR (l.take n) 0 _ a _ (by omega) (fun j hj=>by
  rw[QU] at hj;simp[hj]) qji (by rw[QU];exact qjv) h
 refine wp_region_any hm ?_;have H2:=SI (Q:=Q) (g:=l.toArray.size-n) (D:=D) (KJ hD) (fun done a' F' w' GN hF' hA' hL=>by
  have h1:=wpAny_of_seq (md:=.any) (Q':=Q) (l.drop n) n done a' w' (fun j=>by simp[List.getElem?_drop]) (by rw[hdl];exact hL.1) (hL.2 w' GN hF' hA');rwa [hdl] at h1) _ _ a _ _ (fun d hd b hb=>by rw[h0 d hd] at hb;cases hb) ((yB _ _).drew) (fun _ _ _ _ h=>h) (fun _=>trivial) H
 rw[QU,show n+(l.toArray.size-n)=l.toArray.size by omega] at H2;exact H2
theorem Bz {K K':Act→aV→Prop} (hK:∀a F,K a F→K' a F):∀(l:List Oper) (k:Nat) (a:Act) (F:aV),tA P ops W Φ K k l a F→tA P ops W Φ K' k l a F
 | [],_,a,F,h=>hK a F h
 | _::r,k,_,_,h=>mC (fun a' F' h'=>Bz hK r (k+1) a' F' h') h
theorem Qs (l:List Oper):Uu l Φ []=true:=by
 unfold Uu;rw[List.all_eq_true];intro k _
 cases l[k]? with
 | none=>rfl
 | some o=>
  dsimp only
  cases h:o.dst <;> rfl
theorem af {id:Nat} {Q:Exit→Act→World→Prop} {a:Act} {w:World} {l:List Oper} (n:Nat) (Φ:Nat→Option GPost) (hm:P.follows .mixedOrders=true) (hB:Region.lexTailB .any l.toArray n=true)
  (h:tA P l.toArray w Φ (fun a' F'=>∀w',Below w.heap.size w w'→(∀k,F' k w')→wpList P l.toArray Q (l.drop n) a' w') 0 (l.take n) a fun _ _=>True):(Code.region id l.toArray true).wp P Q a w :=
 dt n Φ [] hm hB (Qs l) (fun d hd=>by cases hd) (Bz (fun a' F' h' w' h1 h2 _=>h' w' h1 h2) _ _ _ _ h)
def um (ops:Array Oper):List Oper→aV→aV
 | [],F=>F
 | o::r,F=>um ops r (iC F o.dst (kF ops o F))
theorem Kg {K:Act→aV→Prop} (m:Nat) {k:Nat} {l:List Oper} {a:Act} {F:aV} (hs:(l.take m).all (fun o=>rO o&&o.guard.isNone)=true) (hΦ:((List.range m).all fun j=>(Φ (k + j)).isNone)=true) (hm:m ≤ l.length)
  (h:wpQuiet P ops (fun w'=>∃x:HeldB W,w'=x.w) (fun a'=>tA P ops W Φ K (k+m) (l.drop m) a' (um ops (l.take m) F)) (l.take m) a):tA P ops W Φ K k l a F:=by
 induction m generalizing k l a F with
 | zero=>simpa[wpQuiet,um] using h
 | succ m ih=>
  cases l with
  | nil=>simp at hm
  | cons o r=>
   simp only[aO,List.all_cons,Bool.and_eq_true] at hs;obtain⟨⟨hso,mO⟩,hs⟩:=hs;have hw:Region.wanted o (yielded ops a.tmps)=true:=by
    unfold Region.wanted;rw[Option.isNone_iff_eq_none] at mO;rw[mO]
   have hk0:Φ k=none:=by
    rw[List.all_eq_true] at hΦ
    have:=hΦ 0 (List.mem_range.2 (by omega));simpa using this
   simp only[aO,aP,wpQuiet] at h;rw[if_pos hw] at h;obtain⟨v,hq,h⟩:=h;show cj P ops W o (Φ k) _ a F;unfold cj;rw[if_pos hw,hk0];refine⟨v,xN (fun w hw=>⟨⟨w,hw⟩,rfl⟩) hso hq,?_⟩;refine ih hs ?_ (by simpa using hm) ?_
   ·rw[List.all_eq_true] at hΦ⊢;intro j hj
    have:=hΦ (j+1) (List.mem_range.2 (by have:=List.mem_range.1 hj;omega));rwa [show k+(j+1)=k+1+j by omega] at this
   rw[show k+1+m=k+(m+1) by omega];exact h
theorem zw {K:Act→aV→Prop} (m:Nat) {k:Nat} {l:List Oper} {a:Act} {F:aV} (h:wpQuiet P ops (fun w'=>∃x:HeldB W,w'=x.w) (fun a'=>tA P ops W Φ K (k+m) (l.drop m) a' (um ops (l.take m) F)) (l.take m) a) (hs:(l.take m).all (fun o=>rO o&&o.guard.isNone)=true:=by kernel_rfl) (hΦ:((List.range m).all fun j=>(Φ (k+j)).isNone)=true:=by rfl) (hm:m≤l.length:=by decide):tA P ops W Φ K k l a F:=Kg m hs hΦ hm h
theorem ae {K:Act→aV→Prop} {k:Nat} {o:Oper} {r:List Oper} {a:Act} {F:aV} {φ:GPost} (hg:o.guard=none) (hφ:Φ k=some φ)
  (h:∀w,Below W.heap.size W w→kF ops o F w→oI P o a φ w) (hK:∀v,φ.σ v→tA P ops W Φ K (k+1) r (a.put o.dst v) (iC F o.dst (φ.φ v))) (hfr:φ.fr=false:=by rfl):tA P ops W Φ K k (o::r) a F:=by
 show cj P ops W o (Φ k) _ a F;have hw:Region.wanted o (yielded ops a.tmps)=true:=by
  unfold Region.wanted;rw[hg]
 unfold cj;rw[if_pos hw,hφ];exact⟨fun w h1 h2=>.inl ⟨hfr,h w h1 h2⟩,hK⟩
theorem aX {K:Act→aV→Prop} {k:Nat} {o:Oper} {r:List Oper} {a:Act} {F:aV} {φ:GPost} (hg:o.guard=none) (hφ:Φ k=some φ)
  (h:∀w,Below W.heap.size W w→kF ops o F w→jv P o a φ w) (hK:∀v,φ.σ v→tA P ops W Φ K (k+1) r (a.put o.dst v) (iC F o.dst (φ.φ v))):tA P ops W Φ K k (o::r) a F:=by
 show cj P ops W o (Φ k) _ a F;have hw:Region.wanted o (yielded ops a.tmps)=true:=by
  unfold Region.wanted;rw[hg]
 unfold cj;rw[if_pos hw,hφ];exact⟨fun w h1 h2=>.inr (h w h1 h2),hK⟩
theorem Zc {K:Act→aV→Prop} {k:Nat} {a:Act} {F:aV} (h:K a F):tA P ops W Φ K k [] a F:=h
end
def cg (q:Rat) (K:Nat):Prop:=q.num.natAbs<4294967296^K∧q.den<4294967296^K
theorem aS {q:Rat} {K M:Nat} (h:cg q K) (hM:K≤M):cg q M:=by
 have h3:4294967296^K≤4294967296^M:=Nat.pow_le_pow_right (by decide) hM;exact⟨yK h.1 h3,yK h.2 h3⟩
theorem lH {n d:Int} {K:Nat} (hd:d≠0) (h1:n.natAbs<4294967296^K) (h2:d.natAbs<4294967296^K):cg (Rat.divInt n d) K:=by
 obtain⟨e1,e2⟩:=qN (n:=n) hd;exact⟨by rw[e1];exact Nat.lt_of_le_of_lt (YK _ _) h1,by rw[e2];exact Nat.lt_of_le_of_lt (YK _ _) h2⟩
theorem fG {a b K M:Nat} (ha:a<4294967296^K) (hb:b<4294967296^M):a*b<4294967296^(K+M):=by
 rw[Nat.pow_add];exact Nat.mul_lt_mul'' ha hb
theorem sG (q:Rat):((q.den:Nat):Int)≠0:=by have:=q.den_nz;omega
theorem iw {a b:Rat} {K M:Nat} (ha:cg a K) (hb:cg b M):cg (a+b) (K+M+1):=by
 have hd:((a.den*b.den:Nat):Int)≠0:=by have:=Nat.mul_ne_zero a.den_nz b.den_nz;omega
 have h0:=qG (K+M);rw[IQ];refine lH hd ?_ ?_
 ·have h1:(a.num*b.den+b.num*a.den).natAbs≤a.num.natAbs*b.den+b.num.natAbs*a.den:=by
   refine yH (Int.natAbs_add_le _ _) ?_;rw[Int.natAbs_mul,Int.natAbs_mul,Int.natAbs_natCast,Int.natAbs_natCast];exact yA _
  have h2:=fG ha.1 hb.2;have h3:=fG hb.1 ha.2;rw[Nat.add_comm M K] at h3;rw[yW];omega
 rw[Int.natAbs_natCast];have h2:=fG ha.2 hb.2;rw[yW];omega
theorem Dp {a:Rat} {K:Nat} (ha:cg a K):cg (-a) K:=⟨by rw[Rat.neg_num,Int.natAbs_neg];exact ha.1,ha.2⟩
theorem dY {a b:Rat} {K M:Nat} (ha:cg a K) (hb:cg b M):cg (a-b) (K+M+1):=by rw[Rat.sub_eq_add_neg];exact iw ha (Dp hb)
theorem iu {a b:Rat} {K M:Nat} (ha:cg a K) (hb:cg b M):cg (a*b) (K+M):=by
 rw[IL];refine lH (by have:=Nat.mul_ne_zero a.den_nz b.den_nz;omega) ?_ ?_
 ·rw[Int.natAbs_mul];exact fG ha.1 hb.1
 rw[Int.natAbs_natCast];exact fG ha.2 hb.2
theorem fh {a b:Rat} {K M:Nat} (hz:b.num≠0) (ha:cg a K) (hb:cg b M):cg (a/b) (K+M):=by
 rw[IP];refine lH (Int.mul_ne_zero (sG a) hz) ?_ ?_
 ·rw[Int.natAbs_mul,Int.natAbs_natCast];exact fG ha.1 hb.2
 rw[Int.natAbs_mul,Int.natAbs_natCast];exact fG ha.2 hb.1
theorem bL {n:Int} {K:Nat} (h:n.natAbs<4294967296^K) (hK:1≤K):cg (n:Rat) K:=by
 refine⟨by rw[Rat.num_intCast];exact h,?_⟩;rw[Rat.den_intCast]
 have:4294967296^1≤4294967296^K:=Nat.pow_le_pow_right (by decide) hK;omega
structure LoadT where
 pos:Int
 wt:Int
structure BeamT where
 name:ByteArray
 len:Int
 sup:List Int
 loads:List LoadT
 even:Int
abbrev zC (x:BeamT) (a:Option Addr) (b:Nat) (c:Option Addr) (d:Nat):Array Value:=#[.string x.name,.int .i64 x.len,.slice a x.sup.length b,.slice c x.loads.length d,.int .i64 x.even]
def dB (l:List Int):Int:=l.foldl (· * ·) 1
def Zu (b:Int) (l:List Int):Rat:=Rat.divInt (dB l) b
def ai (b:BeamT) (i:Nat):Int:=b.sup.getD i 0
def aN (b:BeamT) (f:LoadT→Option Rat) (s:Rat) (k:Nat):Rat:=(b.loads.take k).foldl (fun s x=>match f x with|some y=>s+y|none=>s) s
theorem Zl {b:BeamT} {f:LoadT→Option Rat} {s:Rat} {k:Nat} (hk:k<b.loads.length):aN b f s (k+1)=match f b.loads[k] with|some y=>aN b f s k+y|none=>aN b f s k:=by
 unfold aN;rw[List.take_succ_eq_append_getElem hk,List.foldl_append];rfl
theorem yj {b:BeamT} {f:LoadT→Option Rat} {s:Rat} {K M:Nat} (hs:cg s K) (hf:∀x∈b.loads,∀y,f x=some y→cg y M):∀k,k ≤ b.loads.length→cg (aN b f s k) (K + k * (M + 1))
 | 0,_=>by rw[Nat.zero_mul];exact hs
 | k+1,hk=>by
  have ih:=yj hs hf k (by omega);rw[Zl (by omega)];have e:K+(k+1)*(M+1)=K+k*(M+1)+M+1:=by rw[Nat.add_mul];omega
  rw[e];split
  ·rename_i y hy
   exact iw ih (hf _ (yV (by omega)) y hy)
  exact aS ih (by omega)
def ao (b:BeamT):BeamT:=⟨b.name,b.len,b.sup.reverse.map (b.len - ·),b.loads.map fun x=>⟨b.len-x.pos,x.wt⟩,b.even⟩
def qW (a:Int) (x:LoadT):Option Rat:=if x.pos<a then some (Zu 1 [x.wt,a-x.pos]) else none
def iT (b:BeamT) (k:Nat):Rat:=aN b (qW (ai b 0)) (Zu 2000 [b.even,ai b 0,ai b 0]) k
def bG (b:BeamT):Rat:=((0:Int):Rat)-iT b b.loads.length
def kZ (lo hi:Int) (left:Bool) (x:LoadT):Option Rat :=
 if x.pos≤lo∨hi≤x.pos then none else
  some (Zu (hi-lo) [x.wt,if left then x.pos-lo else hi-x.pos,(hi-lo)*(hi-lo)-(if left then x.pos-lo else hi-x.pos)*(if left then x.pos-lo else hi-x.pos)])
def bH (b:BeamT) (lo hi:Int) (left:Bool) (k:Nat):Rat:=aN b (kZ lo hi left) (Zu 4000 [b.even,hi-lo,hi-lo,hi-lo]) k
def cZ (b:BeamT) (lo hi:Int) (left:Bool):Rat:=bH b lo hi left b.loads.length
def bk (b:BeamT) (i:Nat):Int:=ai b i-ai b (i-1)
def bN (b:BeamT):Nat→Rat
 | 0=>0
 | 1=>((2*(bk b 1+bk b 2):Int):Rat)
 | i+2=>((2*(bk b (i+2)+bk b (i+3)):Int):Rat)-((bk b (i+2):Int):Rat)/bN b (i+1)*((bk b (i+2):Int):Rat)
def jS (b:BeamT) (i:Nat):Rat:=((0:Int):Rat)-cZ b (ai b (i-1)) (ai b i) true-cZ b (ai b i) (ai b (i+1)) false
def gS (b:BeamT):Nat→Rat
 | 0=>0
 | 1=>jS b 1-bG b*((bk b 1:Int):Rat)
 | i+2=>jS b (i+2)-((bk b (i+2):Int):Rat)/bN b (i+1)*gS b (i+1)
def wF (b:BeamT):Nat→Rat
 | 0=>bG (ao b)
 | j+1=>(gS b (b.sup.length-2-j)-wF b j*((bk b (b.sup.length-1-j):Int):Rat))/bN b (b.sup.length-2-j)
def Zx (b:BeamT) (i:Nat):Rat:=if i=0 then bG b else wF b (b.sup.length-1-i)
def gq (lo hi:Int) (left:Bool) (x:LoadT):Option Rat:=if x.pos≤lo∨hi≤x.pos then none else some (Zu (hi-lo) [x.wt,if left then hi-x.pos else x.pos-lo])
def da (b:BeamT) (lo hi:Int) (left:Bool) (k:Nat):Rat:=aN b (gq lo hi left) (Zu 2000 [b.even,hi-lo]) k
def dQ (b:BeamT) (lo hi:Int) (left:Bool):Rat:=da b lo hi left b.loads.length
def eC (a:Int) (x:LoadT):Option Rat:=if x.pos<a then some ((x.wt:Int):Rat) else none
def ef (b:BeamT) (a:Int) (k:Nat):Rat:=aN b (eC a) (Zu 1000 [b.even,a]) k
def eh (b:BeamT) (a:Int):Rat:=ef b a b.loads.length
def nN (a:Int) (x:LoadT):Option Rat:=if x.pos=a then some ((x.wt:Int):Rat) else none
def iQ (b:BeamT) (a:Int) (k:Nat):Rat:=aN b (nN a) ((0:Int):Rat) k
def iP (b:BeamT) (i:Nat):Rat:=iQ b (ai b i) b.loads.length
def ik (b:BeamT) (i:Nat):Rat:=if 0<i then iP b i+dQ b (ai b (i-1)) (ai b i) false+(Zx b (i-1)-Zx b i)/((bk b i:Int):Rat) else iP b i
def jq (b:BeamT) (i:Nat):Rat:=if i+1<b.sup.length then ik b i+dQ b (ai b i) (ai b (i+1)) true+(Zx b (i+1)-Zx b i)/((bk b (i+1):Int):Rat) else ik b i
def jo (b:BeamT) (i:Nat):Rat:=if i=0 then jq b i+eh b (ai b i) else jq b i
def ny (b:BeamT) (i:Nat):Rat:=if i+1=b.sup.length then jo b i+eh (ao b) (b.len-ai b i) else jo b i
def dP (b:BeamT):List Rat:=(List.range b.sup.length).map (ny b)
def rX (b:BeamT):List Rat:=(List.range b.sup.length).map (Zx b)
example:dP ⟨⟨#[]⟩,1000,[0,1000],[⟨500,10⟩],0⟩=[5,5]:=by decide +kernel
example:dP ⟨⟨#[]⟩,4000,[0,4000],[⟨1000,600⟩],500⟩=[1450,1150]:=by decide +kernel
structure BeamOk (b:BeamT):Prop where
 len:1≤b.len∧b.len≤1048576
 even:0≤b.even∧b.even≤1048576
 sup1:1≤b.sup.length∧b.sup.length≤10
 sup:∀i,i<b.sup.length→0≤ai b i∧ai b i≤b.len
 inc:∀i,i+1<b.sup.length→ai b i<ai b (i+1)
 loads1:b.loads.length≤40
 loads:∀x∈b.loads,0≤x.pos∧x.pos≤b.len∧0≤x.wt∧x.wt≤67108864
theorem Nr (k n:Rat) (x:Rat) (hk:1≤k) (hn:1≤n) (hx:k≤x):n≤2*(k+n)-k/x*k:=by
 have hx0:(0:Rat)<x:=by grind
 have h1:k/x≤1:=Rat.not_lt.1 fun h=>by rw[Rat.lt_div_iff hx0] at h;grind
 have h2:k/x*k≤1*k:=Rat.mul_le_mul_of_nonneg_right h1 (by grind);grind
section
variable {b:BeamT}
theorem iZ (h:BeamOk b) {i:Nat} (h0:1≤i) (hi:i<b.sup.length):1≤bk b i∧bk b i≤1048576:=by
 have h1:=h.inc (i-1) (by omega);rw[show i-1+1=i by omega] at h1;have h2:=h.sup i hi;have h3:=h.sup (i-1) (by omega);have h4:=h.len;unfold bk;omega
theorem oH {k:Int} (h:1≤k):(1:Rat)≤((k:Int):Rat):=by
 have:=Rat.intCast_le_intCast.2 h;simpa using this
theorem Ay (h:BeamOk b):∀i,1 ≤ i→i + 1 < b.sup.length→((bk b (i + 1):Int):Rat) ≤ bN b i
 | 0,h0,_=>by omega
 | 1,_,hi=>by
  have h1:=oH (iZ h (i:=1) (by omega) (by omega)).1;have h2:=oH (iZ h (i:=2) (by omega) (by omega)).1;show _≤(((2*(bk b 1+bk b 2):Int)):Rat);rw[Rat.intCast_mul,Rat.intCast_add];simp only[Rat.intCast_ofNat];grind
 | i+2,_,hi=>by
  have ih:=Ay h (i+1) (by omega) (by omega);have h1:=oH (iZ h (i:=i+2) (by omega) (by omega)).1;have h2:=oH (iZ h (i:=i+3) (by omega) (by omega)).1;have h3:=Nr _ _ _ h1 h2 ih;show _≤(((2*(bk b (i+2)+bk b (i+3)):Int)):Rat)-_;rw[Rat.intCast_mul,Rat.intCast_add];simp only[Rat.intCast_ofNat];exact h3
theorem mF (h:BeamOk b) {i:Nat} (h0:1≤i) (hi:i+1<b.sup.length):(bN b i).num≠0:=by
 have h1:=Ay h i h0 hi;have h2:=oH (iZ h (i:=i+1) (by omega) (by omega)).1;intro e
 have:bN b i=0:=Rat.num_eq_zero.1 e;rw[this] at h1;grind
theorem xO (x y:Int):dB [x,y]=x*y:=by simp[dB]
theorem C2 (x y z:Int):dB [x,y,z]=x*y*z:=by simp[dB]
theorem G8 (x y z u:Int):dB [x,y,z,u]=x*y*z*u:=by simp[dB]
theorem fB {x y:Int} {K M:Nat} (hx:x.natAbs<4294967296^K) (hy:y.natAbs<4294967296^M):(x*y).natAbs<4294967296^(K+M):=by rw[Int.natAbs_mul];exact fG hx hy
theorem jk {x:Int} (h:x.natAbs<4294967296):x.natAbs<4294967296^1:=h
theorem tj {d x y:Int} (hd:d≠0) (h0:d.natAbs<4294967296) (hx:x.natAbs<4294967296) (hy:y.natAbs<4294967296):cg (Zu d [x,y]) 5:=by
  refine aS (K := 2) (lH hd ?_ (by
   have:(4294967296:Nat)^2=18446744073709551616 := by decide
   omega)) (by decide)
  rw[xO];exact fB (jk hx) (jk hy)
theorem Dq {d x y z:Int} (hd:d≠0) (h0:d.natAbs<4294967296) (hx:x.natAbs<4294967296) (hy:y.natAbs<4294967296) (hz:z.natAbs<4294967296^2):cg (Zu d [x,y,z]) 5:=by
  refine aS (K := 4) (lH hd ?_ (by
   have:(4294967296:Nat)^4=340282366920938463463374607431768211456 := by decide
   omega)) (by decide)
  rw[C2];exact fB (fB (jk hx) (jk hy)) hz
theorem qjU {d x y z u:Int} (hd:d≠0) (h0:d.natAbs<4294967296) (hx:x.natAbs<4294967296) (hy:y.natAbs<4294967296) (hz:z.natAbs<4294967296) (hu:u.natAbs<4294967296):cg (Zu d [x,y,z,u]) 5:=by
  refine aS (K := 4) (lH hd ?_ (by
   have:(4294967296:Nat)^4=340282366920938463463374607431768211456 := by decide
   omega)) (by decide)
  rw[G8];exact fB (fB (fB (jk hx) (jk hy)) (jk hz)) (jk hu)
theorem jZ {f:LoadT→Option Rat} {s:Rat} (h:BeamOk b) (hs:cg s 5) (hf:∀x∈b.loads,∀y,f x=some y→cg y 5) {k:Nat} (hk:k≤b.loads.length):cg (aN b f s k) 245:=by
 have h1:=h.loads1;exact aS (yj hs hf k hk) (by omega)
theorem s7 (h:BeamOk b) {k:Nat} (hk:k≤b.loads.length):cg (iT b k) 245:=by
 have h1:=h.even;have h2:=h.sup 0 h.sup1.1;have h3:=h.len;refine jZ h (Dq (by decide) (by decide) (by omega) (by omega) ?_) (fun x hx y hy=>?_) hk
 ·have:(4294967296:Nat)^2=18446744073709551616:=by decide
  omega
 have h4:=h.loads x hx;unfold qW at hy;split at hy
 ·injection hy with hy;subst hy;exact tj (by decide) (by decide) (by omega) (by omega)
 cases hy
theorem dH (h:BeamOk b):cg (bG b) 247:=aS (dY (K:=1) (bL (by decide) (yA _)) (s7 h (yA _))) (by decide)
theorem zr {l a:Int} (h0:0≤a) (h1:a≤l) (h2:l≤1048576):(l*l-a*a).natAbs<4294967296^2:=by
 have e:(4294967296:Nat)^2=18446744073709551616:=by decide
 have h3:a*a≤l*l:=Int.mul_le_mul h1 h1 h0 (by omega);have h4:l*l≤1048576*1048576:=Int.mul_le_mul h2 h2 (by omega) (by decide);have h5:=Int.mul_nonneg h0 h0;omega
theorem xH (h:BeamOk b) {lo hi:Int} (h0:0≤lo) (h1:lo<hi) (h2:hi≤b.len) (left:Bool) {k:Nat} (hk:k≤b.loads.length):cg (bH b lo hi left k) 245:=by
 have h3:=h.even;have h4:=h.len;refine jZ h (qjU (by decide) (by decide) (by omega) (by omega) (by omega) (by omega)) (fun x hx y hy=>?_) hk;have h5:=h.loads x hx;unfold kZ at hy;split at hy
 ·cases hy
 rename_i tE
 injection hy with hy;subst hy;cases left
 case true=>exact Dq (by omega) (by omega) (by omega) (by show (x.pos-lo).natAbs<_;omega) (zr (by show 0≤x.pos-lo;omega) (by show x.pos-lo≤_;omega) (by omega))
 exact Dq (by omega) (by omega) (by omega) (by show (hi-x.pos).natAbs<_;omega) (zr (by show 0≤hi-x.pos;omega) (by show hi-x.pos≤_;omega) (by omega))
theorem lZ (h:BeamOk b) {i:Nat} (hi:i+1<b.sup.length) (left:Bool):cg (cZ b (ai b i) (ai b (i+1)) left) 245:=by
 have h1:=h.sup i (by omega);have h2:=h.sup (i+1) hi;exact xH h h1.1 (h.inc i hi) h2.2 left (yA _)
theorem oz (h:BeamOk b) {i:Nat} (h0:1≤i) (hi:i+1<b.sup.length):cg (jS b i) 493:=by
 have h1:=lZ h (i:=i-1) (by omega) true;rw[show i-1+1=i by omega] at h1;exact aS (dY (dY (K:=1) (bL (by decide) (yA _)) h1) (lZ h hi false)) (by decide)
theorem jI (h:BeamOk b) {i:Nat} (h0:1≤i) (hi:i<b.sup.length):cg ((bk b i:Int):Rat) 1:=by
 have h1:=iZ h h0 hi;refine bL ?_ (yA _);rw[Nat.pow_one];omega
theorem uG (h:BeamOk b) {i:Nat} (h0:1≤i) (hi:i+1<b.sup.length):cg ((2*(bk b i+bk b (i+1)):Int):Rat) 1:=by
 have h1:=iZ h h0 (by omega);have h2:=iZ h (i:=i+1) (by omega) hi;refine bL ?_ (yA _);rw[Nat.pow_one];omega
theorem iV (h:BeamOk b):∀i,1 ≤ i→i + 1 < b.sup.length→cg (bN b i) (1 + 4 * i)
 | 0,h0,_=>by omega
 | 1,_,hi=>aS (uG h (i:=1) (yA _) hi) (by decide)
 | i+2,_,hi=>by
  have ih:=iV h (i+1) (by omega) (by omega);have hz:=mF h (i:=i+1) (by omega) (by omega);have h1:=jI h (i:=i+2) (by omega) (by omega);exact aS (dY (uG h (i:=i+2) (by omega) hi) (iu (fh hz h1 ih) h1)) (by omega)
theorem Fg (h:BeamOk b) {i:Nat} (h0:1≤i) (hi:i+2<b.sup.length):cg (((bk b (i+1):Int):Rat)/bN b i) 38:=by
 have h1:=h.sup1;exact aS (fh (mF h h0 (by omega)) (jI h (i:=i+1) (by omega) (by omega)) (iV h i h0 (by omega))) (by omega)
theorem np (h:BeamOk b):∀i,1 ≤ i→i + 1 < b.sup.length→cg (gS b i) (742 + 540 * i)
 | 0,h0,_=>by omega
 | 1,_,hi=>aS (dY (oz h (i:=1) (yA _) hi) (iu (dH h) (jI h (i:=1) (yA _) (by omega)))) (by decide)
 | i+2,_,hi=>by
  have ih:=np h (i+1) (by omega) (by omega);exact aS (dY (oz h (i:=i+2) (by omega) hi) (iu (Fg h (i:=i+1) (by omega) (by omega)) ih)) (by omega)
theorem kW (h:BeamOk b):BeamOk (ao b):=by
 have hs:∀i,i<b.sup.length→ai (ao b) i=b.len-ai b (b.sup.length-1-i):=fun i hi=>by
  show (b.sup.reverse.map (b.len - ·)).getD i 0=_;rw[yO,yN (by simpa using hi)];simp only[Option.getD_some,List.getElem_map,List.getElem_reverse];unfold ai;rw[yO,yN (by omega)];rfl
 have hl:(ao b).sup.length=b.sup.length:=by simp[ao]
 refine⟨h.len,h.even,by rw[hl];exact h.sup1,fun i hi=>?_,fun i hi=>?_,by simp[ao];exact h.loads1,fun x hx=>?_⟩
 ·rw[hl] at hi;rw[hs i hi]
  have:=h.sup (b.sup.length-1-i) (by omega);show 0≤b.len-_∧b.len-_≤b.len;omega
 ·rw[hl] at hi;rw[hs i (by omega),hs (i+1) hi]
  have:=h.inc (b.sup.length-1-(i+1)) (by omega);rw[show b.sup.length-1-(i+1)+1=b.sup.length-1-i by omega] at this;omega
 obtain⟨y,hy,rfl⟩:=List.mem_map.1 hx
 have:=h.loads y hy;show 0≤b.len-y.pos∧b.len-y.pos≤b.len∧0≤y.wt∧y.wt≤67108864;omega
theorem sL (h:BeamOk b):∀j,j + 1 < b.sup.length→cg (wF b j) (247 + 6300 * j)
 | 0,_=>dH (kW h)
 | j+1,hj=>by
  have ih:=sL h j (by omega);have h1:=h.sup1;have h2:=np h (b.sup.length-2-j) (by omega) (by omega);have h3:=iV h (b.sup.length-2-j) (by omega) (by omega);have h4:=jI h (i:=b.sup.length-1-j) (by omega) (by omega);exact aS (fh (mF h (i:=b.sup.length-2-j) (by omega) (by omega)) (dY h2 (iu ih h4)) h3) (by omega)
theorem jU (h:BeamOk b) {i:Nat} (hi:i<b.sup.length):cg (Zx b i) 60000:=by
 have h1:=h.sup1;unfold Zx;split
 ·exact aS (dH h) (by decide)
 exact aS (sL h (b.sup.length-1-i) (by omega)) (by omega)
theorem vF (h:BeamOk b) {lo hi:Int} (h0:0≤lo) (h1:lo<hi) (h2:hi≤b.len) (left:Bool) {k:Nat} (hk:k≤b.loads.length):cg (da b lo hi left k) 245:=by
 have h3:=h.even;have h4:=h.len;refine jZ h (tj (by decide) (by decide) (by omega) (by omega)) (fun x hx y hy=>?_) hk;have h5:=h.loads x hx;unfold gq at hy;split at hy
 ·cases hy
 rename_i tE
 injection hy with hy;subst hy;cases left
 case true=>exact tj (by omega) (by omega) (by omega) (by show (hi-x.pos).natAbs<_;omega)
 exact tj (by omega) (by omega) (by omega) (by show (x.pos-lo).natAbs<_;omega)
theorem kD (h:BeamOk b) {i:Nat} (hi:i+1<b.sup.length) (left:Bool):cg (dQ b (ai b i) (ai b (i+1)) left) 245:=by
 have h1:=h.sup i (by omega);have h2:=h.sup (i+1) hi;exact vF h h1.1 (h.inc i hi) h2.2 left (yA _)
theorem tP {x:LoadT} (h:0≤x.wt∧x.wt≤67108864):cg ((x.wt:Int):Rat) 5:=by
 refine aS (K:=1) (bL ?_ (yA _)) (by decide);rw[Nat.pow_one];omega
theorem kJ (h:BeamOk b) {a:Int} (h0:0≤a) (h1:a≤b.len) {k:Nat} (hk:k≤b.loads.length):cg (ef b a k) 245:=by
 have h3:=h.even;have h4:=h.len;refine jZ h (tj (by decide) (by decide) (by omega) (by omega)) (fun x hx y hy=>?_) hk;unfold eC at hy;split at hy
 ·injection hy with hy;subst hy;exact tP (h.loads x hx).2.2
 cases hy
theorem xW (h:BeamOk b) (a:Int) {k:Nat} (hk:k≤b.loads.length):cg (iQ b a k) 245:=by
 refine jZ h (aS (K:=1) (bL (by decide) (yA _)) (by decide)) (fun x hx y hy=>?_) hk;unfold nN at hy;split at hy
 ·injection hy with hy;subst hy;exact tP (h.loads x hx).2.2
 cases hy
theorem xD (h:BeamOk b) {i j:Nat} (hi:i<b.sup.length) (hj:j<b.sup.length) {k:Nat} (h0:1≤k) (hk:k<b.sup.length):cg ((Zx b i-Zx b j)/((bk b k:Int):Rat)) 120002:=by
 have h1:=iZ h h0 hk;exact aS (fh (by rw[Rat.num_intCast];omega) (dY (jU h hi) (jU h hj)) (jI h h0 hk)) (by decide)
theorem kr (h:BeamOk b) (i:Nat):cg (iP b i) 245:=xW h _ (yA _)
theorem nB (h:BeamOk b) {i:Nat} (hi:i<b.sup.length):cg (ik b i) 121000:=by
 unfold ik;split
 ·have h1:=kD h (i:=i-1) (by omega) false;rw[show i-1+1=i by omega] at h1;exact aS (iw (iw (kr h i) h1) (xD h (by omega) hi (by omega) hi)) (by decide)
 exact aS (kr h i) (by decide)
theorem nz (h:BeamOk b) {i:Nat} (hi:i<b.sup.length):cg (jq b i) 242000:=by
 unfold jq;split
 ·exact aS (iw (iw (nB h hi) (kD h (by omega) true)) (xD h (by omega) hi (by omega) (by omega))) (by decide)
 exact aS (nB h hi) (by decide)
theorem BP (h:BeamOk b) {i:Nat} (hi:i<b.sup.length):cg (jo b i) 242300:=by
 have h1:=h.sup i hi;unfold jo;split
 ·exact aS (iw (nz h hi) (kJ h h1.1 h1.2 (yA _))) (by decide)
 exact aS (nz h hi) (by decide)
end
