/- Lemmas. -/
import Derived.Test.YtknkhnahflmjiaaGreatDoorT1
namespace Go.Proofs.YtknkhnahflmjiaaGreatDoor
def cW (f:Nat→Nat):Nat→Nat
 | 0=>0
 | k+1=>cW f k+16777216^k*f k
def dy (L:List Nat) (i:Nat):Nat:=L.getD i 0
def gv (L:List Nat):Nat:=cW (dy L) L.length
def Gok (L:List Nat):Prop:=∀x∈L,x<16777216
def qku (L:List Nat):Prop:=L≠[]→dy L (L.length-1)≠0
theorem ff (k:Nat):0<16777216^k:=Nat.pow_pos (by decide)
theorem nX {L:List Nat} {i:Nat} (h:i<L.length):dy L i=L[i]:=by unfold dy;rw[List.getD_eq_getElem?_getD,List.getElem?_eq_getElem h];rfl
theorem sF {L:List Nat} {i:Nat} (h:L.length≤i):dy L i=0:=by unfold dy;rw[List.getD_eq_getElem?_getD,List.getElem?_eq_none h];rfl
theorem JG {L:List Nat} (h:Gok L) (i:Nat):dy L i<16777216:=by
 by_cases hi:i<L.length
 ·rw[nX hi];exact h _ (yV hi)
 rw[sF (by omega)];decide
theorem pZ {f g:Nat→Nat}:∀ {k:Nat},(∀i,i < k→f i=g i)→cW f k=cW g k
 | 0,_=>rfl
 | k+1,h=>by
  show cW f k+_=cW g k+_;rw[pZ (k:=k) fun i hi=>h i (by omega),h k (by omega)]
theorem uf {f:Nat→Nat} (h:∀i,f i < 16777216):∀k,cW f k < 16777216^k
 | 0=>Nat.one_pos
 | k+1=>by
  have ih:=uf h k;have hk:=h k;have h1:16777216^k*f k≤16777216^k*16777215:=Nat.mul_le_mul_left _ (by omega);show cW f k+16777216^k*f k<16777216^(k+1);rw[yW];omega
theorem qza:gv []=0:=rfl
theorem Gok.take {L:List Nat} (h:Gok L) (k:Nat):Gok (L.take k):=fun x hx=>h x (List.mem_of_mem_take hx)
theorem wu {L:List Nat} {i j x:Nat} (hi:i<L.length):dy (L.set i x) j=if j=i then x else dy L j:=by
 unfold dy;rw[yO,yO,List.getElem?_set];by_cases e:i=j
 ·subst e;simp[hi]
 rw[if_neg e,if_neg (fun h=>e h.symm)]
theorem Dg {L:List Nat} {i x:Nat} (hi:i<L.length):∀k,k≤i→cW (dy (L.set i x)) k=cW (dy L) k:=fun k hk=>
 pZ fun j hj=>by rw[wu hi,if_neg (by omega)]
theorem tf {L:List Nat} {i x:Nat} (hi:i < L.length):∀k,i < k→cW (dy (L.set i x)) k + 16777216^i * dy L i=cW (dy L) k + 16777216^i * x
 | 0,h=>by omega
 | k+1,h=>by
  show cW (dy (L.set i x)) k+16777216^k*dy (L.set i x) k+_=cW (dy L) k+16777216^k*dy L k+_;by_cases e:i=k
  ·subst e;rw[Dg hi i (yA _),wu hi,if_pos rfl];omega
  have ih:=tf (x:=x) hi k (by omega);rw[wu hi,if_neg (by omega)];omega
theorem Gok.set {L:List Nat} (h:Gok L) (i:Nat) {x:Nat} (hx:x<16777216):Gok (L.set i x):=fun y hy=>by
 rcases List.mem_or_eq_of_mem_set hy with h1|h1
 ·exact h y h1
 omega
theorem Gok.zeros (n:Nat):Gok (List.replicate n 0):=fun x hx=>by rw[List.eq_of_mem_replicate hx];decide
theorem Im (n i:Nat):dy (List.replicate n 0) i=0:=by
 by_cases h:i<n
 ·rw[nX (by simpa using h)];simp
 exact sF (by simpa using h)
theorem vS (n:Nat):∀k,cW (dy (List.replicate n 0)) k=0
 | 0=>rfl
 | k+1=>by
  show cW _ k+16777216^k*dy _ k=0;rw[Im,vS n k,Nat.mul_zero]
theorem RE {O:List Nat} {n p x y cy R:Nat} (hp:p<O.length) (hn:O.length=n) (h:cW (dy O) n+16777216^p*cy=R) :
  cW (dy (O.set p ((x*y+dy O p+cy)%16777216))) n+16777216^(p+1)*((x*y+dy O p+cy)/16777216)=R+16777216^p*(x*y):=by
 have h1:=tf (L:=O) (x:=(x*y+dy O p+cy)%16777216) hp n (by omega);have h2:16777216^p*((x*y+dy O p+cy)%16777216)+16777216^(p+1)*((x*y+dy O p+cy)/16777216)=16777216^p*(x*y+dy O p+cy):=by
  rw[yW,yY,←yX];congr 1
  have:=YI (x*y+dy O p+cy) 16777216;omega
 have h3:16777216^p*(x*y+dy O p+cy)=16777216^p*(x*y)+16777216^p*dy O p+16777216^p*cy:=by rw[yX,yX]
 generalize 16777216^p*((x*y+dy O p+cy)%16777216)=u at*;generalize 16777216^(p+1)*((x*y+dy O p+cy)/16777216)=v at*;generalize 16777216^p*(x*y)=z at*;generalize 16777216^p*dy O p=s at*;generalize 16777216^p*cy=t at*;omega
theorem RF {i k a x y:Nat} {Y:Nat→Nat} (hy:y=Y k):a+16777216^i*(x*cW Y k)+16777216^(i+k)*(x*y)=a+16777216^i*(x*cW Y (k+1)):=by
 have e:cW Y (k+1)=cW Y k+16777216^k*Y k:=rfl;rw[e,hy,yX,yX,Nat.pow_add,Nat.add_assoc];congr 2
 rw[yY,Nat.mul_left_comm x]
theorem yg {i b:Nat} {X:Nat→Nat}:cW X i*b+16777216^i*(X i*b)=cW X (i+1)*b:=by
 show _=(cW X i+16777216^i*X i)*b;rw[Nat.add_mul,yY]
def aH (Q j:Nat):Nat:=Q/16777216^j%16777216
theorem dK (Q j:Nat):aH Q j<16777216:=YJ _ (by decide)
theorem nS (Q:Nat):∀n,cW (aH Q) n=Q%16777216^n
 | 0=>by show 0=Q%1;omega
 | n+1=>by
  show cW (aH Q) n+16777216^n*aH Q n=_;rw[nS Q n,yW,Nat.mod_mul];rfl
def ag (x:Nat):Nat:=if _h:x=0 then 0 else ag (x/16777216)+1
termination_by x
decreasing_by omega
theorem gM:ag 0=0:=by rw[ag];rfl
theorem wh {x:Nat} (h:x≠0):ag x=ag (x/16777216)+1:=by rw[ag,dif_neg h]
theorem je (x:Nat):x<16777216^ag x:=by
 induction x using Nat.strongRecOn with
 | _ x ih=>
  by_cases h:x=0
  ·subst h;rw[gM];decide
  rw[wh h,yW]
  have:=ih (x/16777216) (by omega);omega
theorem jf {x k:Nat} (h:x<16777216^k):ag x≤k:=by
 induction k generalizing x with
 | zero=>
  have:x=0:=by rw[Nat.pow_zero] at h;omega
  subst this;rw[gM];exact yA _
 | succ k ih=>
  by_cases hx:x=0
  ·subst hx;rw[gM];omega
  rw[wh hx]
  have:=ih (x:=x/16777216) (by rw[yW] at h;rw[Nat.div_lt_iff_lt_mul (by decide)];exact h);omega
theorem dx {x k:Nat}:x<16777216^k↔ag x≤k:=⟨jf,fun h=>yK (je x) (Nat.pow_le_pow_right (by decide) h)⟩
def cn (x k:Nat):List Nat:=(List.range k).map (aH x)
def L5 (x:Nat):List Nat:=cn x (ag x)
theorem bT (x k:Nat):(cn x k).length=k:=by unfold cn;rw[List.length_map,List.length_range]
theorem wk (x:Nat):(L5 x).length=ag x:=bT _ _
theorem D9 (x k:Nat):cn x (k+1)=cn x k++[aH x k]:=by unfold cn;rw[List.range_succ,List.map_append];rfl
theorem yu {x k i:Nat} (h:i<k):dy (cn x k) i=aH x i:=by
 rw[nX (by rw[bT];exact h)];simp[cn]
theorem Am {x i:Nat} (h:ag x≤i):aH x i=0:=by
 unfold aH;rw[Nat.div_eq_of_lt (dx.2 h)]
theorem JE (x i:Nat):dy (L5 x) i=aH x i:=by
 by_cases h:i<ag x
 ·exact yu h
 rw[sF (by rw[wk];omega),Am (by omega)]
theorem L1 {x k:Nat} (h:ag x≤k):gv (cn x k)=x:=by
 unfold gv;rw[bT,pZ (g:=aH x) (fun i hi=>yu hi),nS,Nat.mod_eq_of_lt (dx.2 h)]
theorem Vn (x:Nat):gv (L5 x)=x:=L1 (yA _)
theorem Dh {f:Nat→Nat} (hf:∀i,f i < 16777216) {i:Nat}:∀k,i < k→aH (cW f k) i=f i
 | 0,h=>by omega
 | k+1,h=>by
  have e:cW f (k+1)=cW f k+16777216^k*f k:=rfl;have aI:=uf hf k;by_cases hik:i<k
  ·have ih:=Dh hf k hik;unfold aH at*;have hp:16777216^k=16777216^i*(16777216*16777216^(k-i-1)):=by
    rw[←Nat.pow_succ',←Nat.pow_add];congr 1
    omega
   rw[e,hp,yY,Nat.add_mul_div_left _ _ (ff i),yY,Nat.add_mul_mod_self_left,ih]
  obtain rfl:i=k:=by omega
  unfold aH;rw[e,Nat.add_mul_div_left _ _ (ff i),Nat.div_eq_of_lt aI,yS,Nat.mod_eq_of_lt (hf i)]
theorem KR {L:List Nat} (h:Gok L):L=cn (gv L) L.length:=by
 refine List.ext_getElem (by rw[bT]) fun i h1 h2=>?_;have e:(cn (gv L) L.length)[i]=aH (gv L) i:=by simp[cn]
 rw[e];unfold gv;rw[Dh (JG h) _ h1,nX h1]
theorem D7 {x:Nat}:L5 x=[]↔x=0:=by
 constructor
 ·intro h
  have:=Vn x;rw[h,qza] at this;exact this.symm
 rintro rfl;unfold L5;rw[gM];rfl
theorem L0 (x:Nat):qku (L5 x):=fun fS=>by
 rw[wk,JE];have hx:x≠0:=fun e=>fS (D7.2 e);obtain⟨k,hk⟩:∃k,ag x=k+1:=⟨ag (x/16777216),wh hx⟩;rw[hk,Nat.add_sub_cancel];intro h0;have h1:=nS x (k+1);rw[Nat.mod_eq_of_lt (dx.2 (by omega))] at h1;have h2:cW (aH x) (k+1)=cW (aH x) k+16777216^k*aH x k:=rfl;rw[h0,Nat.mul_zero,Nat.add_zero] at h2;have h3:=uf (dK x) k
 have:ag x≤k:=jf (by omega);omega
theorem cv {x y:Nat} (h:x≤y):ag x≤ag y:=jf (Nat.lt_of_le_of_lt h (je y))
def cT (m n i:Nat):Nat:=(m%16777216^i+n%16777216^i)/16777216^i
theorem wy (m n:Nat):cT m n 0=0:=by unfold cT;rw[Nat.pow_zero,Nat.mod_one,Nat.mod_one]
theorem rr (m n i:Nat):cT m n i≤1:=by
 unfold cT;have h1:=YJ m (ff i);have h2:=YJ n (ff i)
 have:(m%16777216^i+n%16777216^i)/16777216^i<2:=by
  rw[Nat.div_lt_iff_lt_mul (ff i)];omega
 omega
theorem qM (m i:Nat):m%16777216^(i+1)=m%16777216^i+16777216^i*aH m i:=by
 rw[yW,Nat.mod_mul];rfl
theorem Ku (P m n:Nat) (hP:0<P):(m+n)/P=m/P+n/P+(m%P+n%P)/P:=by
 have e:m+n=(m%P+n%P)+P*(m/P+n/P):=by
  have e1:=YI m P;have e2:=YI n P;rw[yX];omega
 rw[e,Nat.add_mul_div_left _ _ hP];omega
theorem C4 (m n i:Nat):(aH m i+aH n i+cT m n i)%16777216=aH (m+n) i:=by
 unfold aH cT;rw[Ku _ m n (ff i)];omega
theorem vA (m n i:Nat):(aH m i+aH n i+cT m n i)/16777216=cT m n (i+1):=by
 have e:cT m n (i+1)=(m%16777216^i+n%16777216^i+16777216^i*(aH m i+aH n i))/(16777216^i*16777216):=by
  unfold cT;rw[qM,qM,yW,yX];congr 1
  omega
 rw[e,←YB,Nat.add_mul_div_left _ _ (ff i)];unfold cT;congr 1
 omega
theorem Je (m n i:Nat):(i<ag m∨i<ag n∨0<cT m n i)↔i<ag (m+n):=by
 have h1:=cv (Nat.le_add_right m n);have h2:=cv (Nat.le_add_left n m);constructor
 ·rintro (h|h|h)
  ·omega
  ·omega
  rcases Nat.lt_or_ge i (ag (m+n)) with h3|h3
  ·exact h3
  exfalso
  have h4:=dx.2 h3;unfold cT at h;rw[Nat.mod_eq_of_lt (by omega),Nat.mod_eq_of_lt (by omega),Nat.div_eq_of_lt h4] at h;exact absurd h (by decide)
 intro h;by_cases h3:i<ag m
 ·exact .inl h3
 by_cases h4:i<ag n
 ·exact .inr (.inl h4)
 refine .inr (.inr ?_);have h5:=dx.2 (show ag m≤i by omega);have h6:=dx.2 (show ag n≤i by omega);unfold cT;rw[Nat.mod_eq_of_lt h5,Nat.mod_eq_of_lt h6];rcases Nat.lt_or_ge (m+n) (16777216^i) with h7|h7
 ·have:=dx.1 h7;omega
 exact Nat.div_pos h7 (ff i)
def fT (m n i:Nat):Nat:=if m%16777216^i<n%16777216^i then 1 else 0
theorem DK (m n:Nat):fT m n 0=0:=by unfold fT;rw[Nat.pow_zero,Nat.mod_one,Nat.mod_one];rfl
theorem yy (m n i:Nat):fT m n i≤1:=by unfold fT;split <;> omega
theorem Kt (P m n:Nat) (hP:0<P) (h:n≤m):(m-n)/P+n/P+(if m%P<n%P then 1 else 0)=m/P:=by
 have e1:=YI m P;have e2:=YI n P;have e3:=YJ m hP;have e4:=YJ n hP;have e5:=Nat.div_le_div_right (c:=P) h;split
 ·rename_i hb
  have aI:n/P<m/P:=by
   rcases Nat.lt_or_ge (n/P) (m/P) with h1|h1
   ·exact h1
   exfalso
   have:P*(n/P)=P*(m/P):=by rw[show n/P=m/P by omega]
   omega
  obtain⟨k,hk⟩:∃k,m/P=n/P+k+1:=⟨m/P-n/P-1,by omega⟩;have e6:P*(m/P)=P*(n/P)+P*k+P:=by rw[hk,yX,yX,Nat.mul_one]
  have e7:m-n=(P+m%P-n%P)+P*k:=by omega
  rw[e7,Nat.add_mul_div_left _ _ hP,Nat.div_eq_of_lt (by omega)];omega
 rename_i hb
 obtain⟨k,hk⟩:∃k,m/P=n/P+k:=⟨m/P-n/P,by omega⟩;have e6:P*(m/P)=P*(n/P)+P*k:=by rw[hk,yX]
 have e7:m-n=(m%P-n%P)+P*k:=by omega
 rw[e7,Nat.add_mul_div_left _ _ hP,Nat.div_eq_of_lt (by omega)];omega
theorem KP {m n:Nat} (h:n≤m) (i:Nat) :
  (aH m i:Int)-aH n i-fT m n i=(aH (m-n) i:Int)-(if (aH m i:Int)-aH n i-fT m n i<0 then 16777216 else 0):=by
 have e:=Kt _ m n (ff i) h;have iD:=yy m n i;unfold aH fT at*;generalize (m-n)/16777216^i=u at*;generalize n/16777216^i=v at*;generalize m/16777216^i=z at*;generalize (if m%16777216^i<n%16777216^i then 1 else 0)=b at*;split <;> omega
theorem zW {m n:Nat} (i:Nat):fT m n (i+1)=if (aH m i:Int)-aH n i-fT m n i<0 then 1 else 0:=by
 have e1:=YJ m (ff i);have e2:=YJ n (ff i);unfold fT;rw[qM,qM];generalize 16777216^i=P at*;generalize m%P=m0 at*;generalize n%P=n0 at*;rcases Nat.lt_trichotomy (aH m i) (aH n i) with h|h|h
 ·obtain⟨k,hk⟩:∃k,aH n i=aH m i+k+1:=⟨aH n i-aH m i-1,by omega⟩;have e:P*aH n i=P*aH m i+P*k+P:=by rw[hk,yX,yX,Nat.mul_one]
  rw[if_pos (by omega),if_pos (by split <;> omega)]
 ·rw[h];by_cases hb:m0<n0
  ·rw[if_pos (by omega),if_pos hb,if_pos (by omega)]
  rw[if_neg (by omega),if_neg hb,if_neg (by omega)]
 obtain⟨k,hk⟩:∃k,aH m i=aH n i+k+1:=⟨aH m i-aH n i-1,by omega⟩;have e:P*aH m i=P*aH n i+P*k+P:=by rw[hk,yX,yX,Nat.mul_one]
 rw[if_neg (by omega),if_neg (by split <;> omega)]
theorem Rv (m i:Nat):(aH m i+m/16777216^(i+1)%2*16777216)/2=aH (m/2) i:=by
 unfold aH;rw[YB,Nat.mul_comm 2,←YB,yW,←YB];generalize m/16777216^i=z;omega
theorem Ll (m i:Nat):(aH m i+m/16777216^(i+1)%2*16777216)%2=m/16777216^i%2:=by
 unfold aH;rw[yW,←YB];generalize m/16777216^i=z;omega
theorem qzf {m n i:Nat} (h:m/16777216^(i+1)=n/16777216^(i+1)) (hd:aH m i=aH n i):m/16777216^i=n/16777216^i:=by
 rw[yW,←YB,←YB] at h;unfold aH at hd;omega
theorem Sp {m n i:Nat} (h:m/16777216^(i+1)=n/16777216^(i+1)) (hd:aH m i<aH n i):m<n:=by
 rw[yW,←YB,←YB] at h;unfold aH at hd;rcases Nat.lt_or_ge m n with h1|h1
 ·exact h1
 have:=Nat.div_le_div_right (c:=16777216^i) h1;omega
theorem Vx {m n:Nat} (h:ag m<ag n):m<n:=by
 rcases Nat.lt_or_ge m n with h1|h1
 ·exact h1
 have:=cv h1;omega
theorem RV (m:Nat):aH m 0%2=m%2:=by unfold aH;rw[Nat.pow_zero,Nat.div_one];omega
open Go.RowKit Go.Shelf
def oT (d:Nat):Value:=.int .i64 d
def TyD (w:World) (v:Value):Prop:=∀g,v.ownBlock=some g→∃cs r,w.heap[g]?=some (.cells cs 3 r)
def DgTo (w:World) (B:Nat) (v:Value) (x k:Nat):Prop:=RowAt oT w B v (cn x k)∧(0<k→TyD w v)
def dF (w:World) (B:Nat) (v:Value) (x:Nat):Prop:=DgTo w B v x (ag x)
theorem DgTo.below {w w':World} {B B':Nat} {v:Value} {x k:Nat} (h:DgTo w B v x k) (hb:Below B' w w') (hB:B≤B'):DgTo w' B v x k:=⟨Flat.below h.1 hb hB,fun hk g hg=>by
 obtain⟨cs,r,e⟩:=h.2 hk g hg;obtain⟨A,c,h1,-,-,h4⟩:=h.1;rw[bT] at h4;obtain⟨b,off,eA,aI,-⟩:=h4 hk;rw[h1,eA] at hg;obtain rfl:b=g:=by simpa[Value.ownBlock] using hg
 exact⟨cs,r,(hb.block b (yK aI hB)).trans e⟩⟩
theorem DgTo.mono {w:World} {B B':Nat} {v:Value} {x k:Nat} (h:DgTo w B v x k) (hB:B≤B'):DgTo w B' v x k:=⟨Flat.mono h.1 hB,h.2⟩
theorem DgTo.grow {w w':World} {v:Value} {x k:Nat} (h:DgTo w w.heap.size v x k) (hb:Below w.heap.size w w'):DgTo w' w'.heap.size v x k:=(h.below hb (yA _)).mono hb.size
theorem DgTo.open_ {w:World} {B:Nat} {v:Value} {x k:Nat} (h:DgTo w B v x k):∃A c,v=.slice A k c∧k≤c∧c≤maxLen∧∀i,i<k→∃b off,A=some ⟨b,off,none⟩∧b<B∧∀j,j<k→w.cell? ⟨b,off+j,none⟩=some (.int .i64 (aH x j:Nat)):=by
 obtain⟨A,c,h1,h2,h3,h4⟩:=h.1;rw[bT] at h1 h2 h4;refine⟨A,c,h1,h2,h3,fun i hi=>?_⟩;obtain⟨b,off,e,aI,hc⟩:=h4 (by omega);refine⟨b,off,e,aI,fun j hj=>hc j _ ?_⟩;rw[YC,yN (by rw[bT];exact hj)];simp[cn,oT]
theorem DgTo.take {w:World} {B k c:Nat} {A:Option Addr} {x m:Nat} (h:DgTo w B (.slice A k c) x k) (hm:m≤k):DgTo w B (.slice A m c) x m:=by
 refine⟨?_,fun h0 g hg=>h.2 (by omega) g (by cases A <;> exact hg)⟩;obtain⟨A',c',h1,h2,h3,h4⟩:=h.1;rw[bT] at h1 h2 h4;injection h1 with e1 e2 e3;subst e1 e3;refine⟨A,c,by rw[bT],by rw[bT];omega,h3,fun h0=>?_⟩;rw[bT] at h0;obtain⟨b,off,e,aI,hc⟩:=h4 (by omega);refine⟨b,off,e,aI,fun j u hu=>hc j u ?_⟩;rw[YC] at hu⊢;by_cases hj:j<m
 ·rw[yN (by rw[bT];exact hj)] at hu;rw[yN (by rw[bT];omega)];simp[cn] at hu⊢;exact hu
 rw[List.getElem?_eq_none (by rw[bT];omega)] at hu;simp at hu
theorem DgTo.kept {w w':World} {B e s n x k:Nat} {v u:Value} {xs:List Value} (h:DgTo w w.heap.size v x k) (ho:w.ownsRow B e s u n xs) (hg:w.grownBy w' u.ownBlock) (ht:e≠3):DgTo w' w'.heap.size v x k:=by
 obtain⟨A,c,h1,h2,h3,h4⟩:=h.1;rw[bT] at h1 h2 h4;have fS:∀b off,0<k→A=some ⟨b,off,none⟩→some b≠u.ownBlock:=fun b off hk eA he=>by
  obtain⟨cs,r,e1⟩:=h.2 hk b (by rw[h1,eA];rfl);rcases ho.2 with⟨rfl,_⟩|⟨g',cap,cur,rfl,_,hh,_⟩
  ·simp[Value.ownBlock] at he
  have:b=g':=by simpa[Value.ownBlock] using he
  subst this;rw[e1] at hh;injection hh with hh;injection hh with _ h5;exact ht h5.symm
 refine⟨⟨A,c,by rw[bT];exact h1,by rw[bT];exact h2,h3,fun hk=>?_⟩,fun hk g T9=>?_⟩
 ·rw[bT] at hk;obtain⟨b,off,eA,aI,hc⟩:=h4 hk;exact⟨b,off,eA,yK aI hg.size,fun j y hy=>(World.cell?_of_block (a:=⟨b,off+j,none⟩) (hg.block b aI (fS b off hk eA))).trans (hc j y hy)⟩
 obtain⟨b,off,eA,aI,-⟩:=h4 hk;obtain⟨cs,r,e1⟩:=h.2 hk g T9;rw[h1,eA] at T9;obtain rfl:b=g:=by simpa[Value.ownBlock] using T9
 exact⟨cs,r,(hg.block b aI (fS b off hk eA)).trans e1⟩
def BigAt (w:World) (B:Nat) (s:Bool) (v:Value) (n:Int):Prop:=s=decide (n<0)∧dF w B v n.natAbs
theorem BigAt.below {w w':World} {B B':Nat} {s:Bool} {v:Value} {n:Int} (h:BigAt w B s v n) (hb:Below B' w w') (hB:B≤B'):BigAt w' B s v n:=⟨h.1,DgTo.below h.2 hb hB⟩
theorem BigAt.mono {w:World} {B B':Nat} {s:Bool} {v:Value} {n:Int} (h:BigAt w B s v n) (hB:B≤B'):BigAt w B' s v n:=⟨h.1,DgTo.mono h.2 hB⟩
theorem BigAt.grow {w w':World} {s:Bool} {v:Value} {n:Int} (h:BigAt w w.heap.size s v n) (hb:Below w.heap.size w w'):BigAt w' w'.heap.size s v n:=(h.below hb (yA _)).mono hb.size
def ExqAt (w:World) (B:Nat) (x:Value) (q:Rat) (K:Nat):Prop :=
 ∃s1 v1 s2 v2 N D,x=.agg #[.bool s1,v1,.bool s2,v2]∧BigAt w B s1 v1 N∧BigAt w B s2 v2 D∧0<D∧ag N.natAbs≤K∧ag D.natAbs≤K∧q=Rat.divInt N D
theorem ExqAt.below {w w':World} {B B':Nat} {x:Value} {q:Rat} {K:Nat} (h:ExqAt w B x q K) (hb:Below B' w w') (hB:B≤B'):ExqAt w' B x q K:=by
 obtain⟨s1,v1,s2,v2,N,D,e,h1,h2,h3⟩:=h;exact⟨s1,v1,s2,v2,N,D,e,h1.below hb hB,h2.below hb hB,h3⟩
theorem ExqAt.mono {w:World} {B B':Nat} {x:Value} {q:Rat} {K:Nat} (h:ExqAt w B x q K) (hB:B≤B'):ExqAt w B' x q K:=by
 obtain⟨s1,v1,s2,v2,N,D,e,h1,h2,h3⟩:=h;exact⟨s1,v1,s2,v2,N,D,e,h1.mono hB,h2.mono hB,h3⟩
theorem ExqAt.grow {w w':World} {x:Value} {q:Rat} {K:Nat} (h:ExqAt w w.heap.size x q K) (hb:Below w.heap.size w w'):ExqAt w' w'.heap.size x q K:=(h.below hb (yA _)).mono hb.size
theorem ExqAt.more {w:World} {B:Nat} {x:Value} {q:Rat} {K K':Nat} (h:ExqAt w B x q K) (hK:K≤K'):ExqAt w B x q K':=by
 obtain⟨s1,v1,s2,v2,N,D,e,h1,h2,h3,h4,h5,h6⟩:=h;exact⟨s1,v1,s2,v2,N,D,e,h1,h2,h3,yH h4 hK,yH h5 hK,h6⟩
theorem ExqAt.kept {w w':World} {B e s n K:Nat} {x u:Value} {q:Rat} {xs:List Value} (h:ExqAt w w.heap.size x q K) (ho:w.ownsRow B e s u n xs) (hg:w.grownBy w' u.ownBlock) (ht:e≠3):ExqAt w' w'.heap.size x q K:=by
 obtain⟨s1,v1,s2,v2,N,D,e,h1,h2,h3⟩:=h;exact⟨s1,v1,s2,v2,N,D,e,⟨h1.1,DgTo.kept h1.2 ho hg ht⟩,⟨h2.1,DgTo.kept h2.2 ho hg ht⟩,h3⟩
theorem iy {m n K M:Nat} (h1:ag m≤K) (h2:ag n≤M):ag (m*n)≤K+M:=by
 refine jf ?_;rw[Nat.pow_add];exact Nat.mul_lt_mul'' (dx.2 h1) (dx.2 h2)
theorem nW {m n K:Nat} (h1:ag m≤K) (h2:ag n≤K):ag (m+n)≤K+1:=by
 refine jf ?_;have h3:=dx.2 h1;have h4:=dx.2 h2;rw[yW];omega
theorem RR {N D M E:Int} (hD:0<D) (hE:0<E):Rat.divInt N D+Rat.divInt M E=Rat.divInt (N*E+M*D) (D*E):=Rat.divInt_add_divInt _ _ (by omega) (by omega)
theorem Lt {N D M E:Int} (_hD:0<D) (_hE:0<E):Rat.divInt N D*Rat.divInt M E=Rat.divInt (N*M) (D*E):=Rat.divInt_mul_divInt _ _
theorem RS {N D M E:Int} (hD:0<D) (hE:0<E) (hM:0<M):Rat.divInt N D/Rat.divInt M E=Rat.divInt (N*E) (D*M):=by
 rw[Rat.divInt_eq_div,Rat.divInt_eq_div,Rat.divInt_eq_div,Rat.intCast_mul,Rat.intCast_mul];have h1:(D:Rat)≠0:=fun h=>by have:=Rat.intCast_eq_zero_iff.mp h;omega
 have h2:(E:Rat)≠0:=fun h=>by have:=Rat.intCast_eq_zero_iff.mp h;omega
 have h3:(M:Rat)≠0:=fun h=>by have:=Rat.intCast_eq_zero_iff.mp h;omega
 grind
theorem Dv {N D:Int} (hD:0<D):(Rat.divInt N D<0↔N<0)∧(Rat.divInt N D=0↔N=0):=by
 have h4:∀M:Int,0≤Rat.divInt M D↔0≤M:=fun M=>Rat.divInt_nonneg_iff_of_pos_right hD;have h2:Rat.divInt N D=0↔N=0:=by
  constructor
  ·intro h;have a1:=(h4 N).1 (by rw[h];exact Rat.le_refl);have a2:=(h4 (-N)).1 (by rw[←Rat.neg_divInt,h,Rat.neg_zero];exact Rat.le_refl);omega
  rintro rfl;exact Rat.zero_divInt D
 refine⟨?_,h2⟩;have h3:0≤Rat.divInt N D↔0≤N:=Rat.divInt_nonneg_iff_of_pos_right hD;rw[←Rat.not_le,h3];omega
def iU (o:Option Rat):Rat:=match o with|some y=>y|none=>0
theorem jJ {b:BeamT} {f:LoadT→Option Rat} {s:Rat} {k:Nat} (hk:k<b.loads.length):aN b f s (k+1)=aN b f s k+iU (f b.loads[k]):=by
 rw[Zl hk]
 cases f b.loads[k] with
 | none=>show _=_+(0:Rat);rw[Rat.add_zero]
 | some y=>rfl
theorem nF (b:BeamT) (f:LoadT→Option Rat) (s:Rat):∀k,k ≤ b.loads.length→aN b f s k=s + aN b f 0 k
 | 0,_=>by
  show s=s+(0:Rat);rw[Rat.add_zero]
 | k+1,hk=>by
  rw[jJ (by omega),jJ (by omega),nF b f s k (by omega)];grind
def pS (b:BeamT) (q:Rat) (i:Nat):Rat:=((2*(bk b i+bk b (i+1)):Int):Rat)-((bk b i:Int):Rat)*q
def ju (b:BeamT):Nat→Rat×Rat
 | 0=>(bG b,0)
 | i+1=>((jS b (i+1)-((bk b (i+1):Int):Rat)*(ju b i).1)/pS b (ju b i).2 (i+1),((bk b (i+2):Int):Rat)/pS b (ju b i).2 (i+1))
def V5 (b:BeamT):Nat→Rat
 | 0=>bG (ao b)
 | j+1=>(ju b (b.sup.length-2-j)).1-(ju b (b.sup.length-2-j)).2*V5 b j
theorem Jc (b:BeamT) (hz:∀i,1≤i→i+1<b.sup.length→bN b i≠0):∀i,i+2<b.sup.length →
  pS b (ju b i).2 (i+1)=bN b (i+1)∧(ju b (i+1)).1=gS b (i+1)/bN b (i+1)∧(ju b (i+1)).2=((bk b (i+2):Int):Rat)/bN b (i+1)
 | 0,h=>by
  have e:pS b (ju b 0).2 1=bN b 1:=by
   show ((2*(bk b 1+bk b 2):Int):Rat)-((bk b 1:Int):Rat)*0=((2*(bk b 1+bk b 2):Int):Rat);grind
  refine⟨e,?_,?_⟩
  ·show (jS b 1-((bk b 1:Int):Rat)*bG b)/pS b (ju b 0).2 1=(jS b 1-bG b*((bk b 1:Int):Rat))/bN b 1;rw[e,Rat.mul_comm]
  show ((bk b 2:Int):Rat)/pS b (ju b 0).2 1=_;rw[e]
 | i+1,h=>by
  obtain⟨h1,h2,h3⟩:=Jc b hz i (by omega);have hd:=hz (i+1) (by omega) (by omega);have e:pS b (ju b (i+1)).2 (i+2)=bN b (i+2):=by
   unfold pS;rw[h3];show _=((2*(bk b (i+2)+bk b (i+3)):Int):Rat)-((bk b (i+2):Int):Rat)/bN b (i+1)*((bk b (i+2):Int):Rat);rw[Rat.mul_comm]
  refine⟨e,?_,?_⟩
  ·show (jS b (i+2)-((bk b (i+2):Int):Rat)*(ju b (i+1)).1)/pS b (ju b (i+1)).2 (i+2)=(jS b (i+2)-((bk b (i+2):Int):Rat)/bN b (i+1)*gS b (i+1))/bN b (i+2);rw[e,h2];congr 1
   generalize gS b (i+1)=r at*;generalize bN b (i+1)=d at*;generalize ((bk b (i+2):Int):Rat)=k at*;generalize jS b (i+2)=z at*;clear h1 h2 h3 e;grind
  show ((bk b (i+3):Int):Rat)/pS b (ju b (i+1)).2 (i+2)=_;rw[e]
theorem Iv (b:BeamT) (hz:∀i,1 ≤ i→i + 1 < b.sup.length→bN b i ≠ 0):∀j,j + 1 < b.sup.length→V5 b j=wF b j
 | 0,_=>rfl
 | j+1,h=>by
  have ih:=Iv b hz j (by omega);obtain⟨i,hi⟩:∃i,b.sup.length-2-j=i+1:=⟨b.sup.length-3-j,by omega⟩;obtain⟨-,h2,h3⟩:=Jc b hz i (by omega);have hd:=hz (i+1) (by omega) (by omega);rw[V5,wF,ih,hi,h2,h3,show b.sup.length-1-j=i+2 by omega];generalize gS b (i+1)=r at*;generalize bN b (i+1)=d at*;generalize ((bk b (i+2):Int):Rat)=k at*;generalize wF b j=z at*;clear h2 h3 ih;grind
def qe (b:BeamT) (i:Nat) (x:LoadT):Option Rat:=if x.pos=ai b i∨(i=0∧x.pos<ai b 0)∨(i+1=b.sup.length∧ai b i<x.pos) then some ((x.wt:Int):Rat) else none
def Nq (b:BeamT) (i:Nat):Rat:=aN b (qe b i) 0 b.loads.length
def Er (b:BeamT) (i:Nat):Rat:=if i=0 then Nq b i+Zu 1000 [b.even,ai b 0] else Nq b i
def BQ (b:BeamT) (i:Nat):Rat:=if i+1=b.sup.length then Er b i+Zu 1000 [b.even,b.len-ai b i] else Er b i
def AJ (b:BeamT) (lo hi:Int) (left:Bool) (m k:Rat) (s:Rat):Rat:=aN b (gq lo hi left) (s+Zu 2000 [b.even,hi-lo]) b.loads.length+(k-m)*Zu (hi-lo) [1]
def Ff (b:BeamT) (i:Nat):Rat:=if 0<i then AJ b (ai b (i-1)) (ai b i) false (Zx b i) (Zx b (i-1)) (BQ b i) else BQ b i
def KB (b:BeamT) (i:Nat):Rat:=if i+1<b.sup.length then AJ b (ai b i) (ai b (i+1)) true (Zx b i) (Zx b (i+1)) (Ff b i) else Ff b i
theorem Vk (b:BeamT) (i:Nat) (x:LoadT):iU (qe b i x)=iU (nN (ai b i) x)+(if i=0 then iU (eC (ai b i) x) else 0)+(if i+1=b.sup.length then iU (eC (b.len-ai b i) ⟨b.len-x.pos,x.wt⟩) else 0):=by
 unfold qe nN eC;have e:((⟨b.len-x.pos,x.wt⟩:LoadT).pos<b.len-ai b i)↔ai b i<x.pos:=by
  show b.len-x.pos<b.len-ai b i↔_;omega
 simp only[e];rcases Int.lt_trichotomy x.pos (ai b i) with h|h|h
 ·rw[if_neg (show ¬x.pos=ai b i by omega),if_pos h,if_neg (show ¬ai b i<x.pos by omega)];by_cases h0:i=0
  ·subst h0;rw[if_pos (.inr (.inl ⟨rfl,h⟩)),if_pos rfl];simp only[iU];split <;> grind
  rw[if_neg (by omega),if_neg h0];simp only[iU];split <;> grind
 ·rw[if_pos (.inl h),if_pos h,if_neg (show ¬x.pos<ai b i by omega),if_neg (show ¬ai b i<x.pos by omega)];simp only[iU];split <;> split <;> grind
 rw[if_neg (show ¬x.pos=ai b i by omega),if_neg (show ¬x.pos<ai b i by omega),if_pos h];by_cases h0:i+1=b.sup.length
 ·rw[if_pos (.inr (.inr ⟨h0,h⟩)),if_pos h0];simp only[iU];split <;> grind
 rw[if_neg (by
  rintro (h1|⟨h1,h2⟩|⟨h1,h2⟩)
  ·omega
  ·subst h1;omega
  exact h0 h1),if_neg h0]
 simp only[iU];split <;> grind
theorem JD (b:BeamT) (i:Nat):∀k,k ≤ b.loads.length→aN b (qe b i) 0 k=aN b (nN (ai b i)) 0 k + (if i=0 then aN b (eC (ai b i)) 0 k else 0) + (if i + 1=b.sup.length then aN (ao b) (eC (b.len - ai b i)) 0 k else 0)
 | 0,_=>by
  show (0:Rat)=0+(if i=0 then (0:Rat) else 0)+(if i+1=b.sup.length then (0:Rat) else 0);split <;> split <;> grind
 | k+1,hk=>by
  have ih:=JD b i k (by omega);have aK:k<b.loads.length:=by omega
  have hkt:k<(ao b).loads.length:=by simpa[ao] using aK
  have ht:(ao b).loads[k]=⟨b.len-b.loads[k].pos,b.loads[k].wt⟩:=by simp[ao]
  rw[jJ aK,jJ aK,jJ aK,jJ hkt,ht,ih,Vk];generalize aN b (nN (ai b i)) 0 k=u1 at*;generalize aN b (eC (ai b i)) 0 k=u2 at*;generalize aN (ao b) (eC (b.len-ai b i)) 0 k=u3 at*;generalize iU (nN (ai b i) b.loads[k])=v1 at*;generalize iU (eC (ai b i) b.loads[k])=v2 at*;generalize iU (eC (b.len-ai b i) _)=v3 at*;split <;> split <;> grind
theorem SH (b:BeamT) {lo hi:Int} (left:Bool) (m k s:Rat) (h:lo<hi):AJ b lo hi left m k s=s+dQ b lo hi left+(k-m)/((hi-lo:Int):Rat):=by
 unfold AJ dQ da;rw[nF b _ (s+_) _ (yA _),nF b _ (Zu 2000 _) _ (yA _)];have e:Zu (hi-lo) [1]=1/((hi-lo:Int):Rat):=by
  unfold Zu;rw[show dB [1]=1 from rfl,Rat.divInt_eq_div,Rat.intCast_one]
 rw[e];have fS:((hi-lo:Int):Rat)≠0:=by
  intro h0
  have:hi-lo=0:=Rat.intCast_eq_zero_iff.mp h0;omega
 generalize ((hi-lo:Int):Rat)=d at*;generalize Zu 2000 [b.even,hi-lo]=z;generalize aN b (gq lo hi left) 0 b.loads.length=y;grind
theorem qzs (b:BeamT) (UG:∀i,i+1<b.sup.length→ai b i<ai b (i+1)) (i:Nat) (hi:i<b.sup.length):KB b i=ny b i:=by
 have e1:=JD b i b.loads.length (yA _);have e2:iP b i=aN b (nN (ai b i)) 0 b.loads.length:=by
  unfold iP iQ;rfl
 have e3:eh b (ai b i)=Zu 1000 [b.even,ai b i]+aN b (eC (ai b i)) 0 b.loads.length:=by
  unfold eh ef;exact nF b _ _ _ (yA _)
 have e4:eh (ao b) (b.len-ai b i)=Zu 1000 [b.even,b.len-ai b i]+aN (ao b) (eC (b.len-ai b i)) 0 b.loads.length:=by
  have hl:(ao b).loads.length=b.loads.length:=by simp[ao]
  unfold eh ef;rw[nF (ao b) _ _ _ (yA _),hl];rfl
 have a1:0<i→AJ b (ai b (i-1)) (ai b i) false (Zx b i) (Zx b (i-1)) (BQ b i)=BQ b i+dQ b (ai b (i-1)) (ai b i) false+(Zx b (i-1)-Zx b i)/((bk b i:Int):Rat):=fun h0=>by
  have:=UG (i-1) (by omega);rw[show i-1+1=i by omega] at this;exact SH b false _ _ _ this
 have a2:i+1<b.sup.length→AJ b (ai b i) (ai b (i+1)) true (Zx b i) (Zx b (i+1)) (Ff b i)=Ff b i+dQ b (ai b i) (ai b (i+1)) true+(Zx b (i+1)-Zx b i)/((bk b (i+1):Int):Rat):=fun h0=>
  SH b true _ _ _ (UG i h0)
 unfold KB ny jo jq ik;rw[e2,e3,e4];by_cases h0:0<i
 ·have n0:¬i=0:=by omega
  rw[if_neg n0] at e1;rw[if_pos h0,if_neg n0];by_cases hl:i+1<b.sup.length
  ·have nl:¬i+1=b.sup.length:=by omega
   rw[if_neg nl] at e1;rw[if_pos hl,if_neg nl,if_pos hl,a2 hl];unfold Ff;rw[if_pos h0,a1 h0];unfold BQ Er Nq;rw[if_neg nl,if_neg n0,e1];clear a1 a2 e1 e2 e3 e4;grind
  have pl:i+1=b.sup.length:=by omega
  rw[if_pos pl] at e1;rw[if_neg hl,if_pos pl,if_neg hl];unfold Ff;rw[if_pos h0,a1 h0];unfold BQ Er Nq;rw[if_pos pl,if_neg n0,e1];clear a1 a2 e1 e2 e3 e4;grind
 have p0:i=0:=by omega
 rw[if_pos p0] at e1;rw[if_neg h0,if_pos p0];by_cases hl:i+1<b.sup.length
 ·have nl:¬i+1=b.sup.length:=by omega
  rw[if_neg nl] at e1;rw[if_pos hl,if_neg nl,if_pos hl,a2 hl];unfold Ff;rw[if_neg h0];unfold BQ Er Nq;rw[if_neg nl,if_pos p0,e1,show ai b 0=ai b i by rw[p0]];clear a1 a2 e1 e2 e3 e4;grind
 have pl:i+1=b.sup.length:=by omega
 rw[if_pos pl] at e1;rw[if_neg hl,if_pos pl,if_neg hl];unfold Ff;rw[if_neg h0];unfold BQ Er Nq;rw[if_pos pl,if_pos p0,e1,show ai b 0=ai b i by rw[p0]];clear a1 a2 e1 e2 e3 e4;grind
