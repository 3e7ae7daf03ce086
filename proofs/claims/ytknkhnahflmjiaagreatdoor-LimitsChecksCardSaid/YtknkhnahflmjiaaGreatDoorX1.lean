/- Lemmas. -/
import Derived.Test.YtknkhnahflmjiaaGreatDoorT1
import Derived.Test.YtknkhnahflmjiaaGreatDoorU2
namespace Go.Proofs.YtknkhnahflmjiaaGreatDoor
set_option maxRecDepth 100000
set_option maxHeartbeats 40000000
def ic (g:Nat→Bool) (k:Nat):Bool:=decide (∀i,i<k→g i=true)
theorem kU (g:Nat→Bool):ic g 0=true:=by unfold ic;simp
theorem qu {g:Nat→Bool} {k n:Nat} (hk:k<n) (h:g k=false):ic g n=false:=by
 unfold ic;rw[YD];intro hh;rw[hh k hk] at h;cases h
theorem jH {g:Nat→Bool} {k:Nat} (h:ic g k=true) (h1:g k=true):ic g (k+1)=true:=by
 unfold ic at*;rw[yP] at*;intro i hi;rcases Nat.lt_succ_iff_lt_or_eq.1 hi with h2|rfl
 ·exact h i h2
 exact h1
theorem IB {g:Nat→Bool} {n k:Nat} (h:ic g n=true) (hk:k<n):g k=true:=by
 unfold ic at h;rw[yP] at h;exact h k hk
theorem jP {g:Nat→Bool} {n:Nat}:ic g n=true ↔ ∀i,i<n→g i=true:=by unfold ic;rw[decide_eq_true_iff]
open Go.RowKit Go.Shelf
theorem bj (n lo hi:Int) (w:World):Calls Tryz.prog 91 #[.int .i64 n,.int .i64 lo,.int .i64 hi] w fun e w'=>e=.returned (.bool (Zw n lo hi))∧w=w':=by
 by_cases h1:lo≤n
 ·by_cases h2:n≤hi
  all_goals
   go_enter Tryz.func91,Tryz.ntmps91;go_wp2;go_ret;exact⟨Ze (by unfold Zw;symm;simp;omega),rfl⟩
 have Lp:decide (lo≤n)=false:=by simpa using h1
 go_enter Tryz.func91,Tryz.ntmps91;go_wp2;go_ret;exact⟨Ze (by unfold Zw;symm;simp;omega),rfl⟩
theorem nY {n lo hi:Int}:Zw n lo hi=true↔lo≤n∧n≤hi:=by unfold Zw;rw[decide_eq_true_iff]
theorem Nn (x y:ItemT) (w:World) (hx:0≤x.pos∧x.pos≤1048576∧1≤x.width∧x.width≤1048576) (hy:0≤y.pos∧y.pos≤1048576∧1≤y.width∧y.width≤1048576) :
  Calls Tryz.prog 136 #[x.val,y.val] w fun e w'=>e=.returned (.bool (eV x y))∧Below w.heap.size w w':=by
 have HB:Y0 (Below w.heap.size w ((w.alloc (.cells #[.string x.name,.int .i64 x.pos,.int .i64 x.width,.int .i64 x.wt,.int .i64 x.hang,.int .i64 x.front,.int .i64 x.back] 125)).alloc (.cells #[.string y.name,.int .i64 y.pos,.int .i64 y.width,.int .i64 y.wt,.int .i64 y.hang,.int .i64 y.front,.int .i64 y.back] 125))):=((yB _ _).alloc (yA _) _).alloc (by simp) _;have HV:Y0 (eV x y=(decide (x.pos+x.width≤y.pos)||decide (y.pos+y.width≤x.pos))):=rfl
 obtain⟨xn,xp,xw,x3,x4,x5,x6⟩:=x;obtain⟨yn,yp,yw,y3,y4,y5,y6⟩:=y;simp only at*;have v1:IntKind.i64.wrap (xp+xw)=xp+xw:=yF _ (by omega);have v2:IntKind.i64.wrap (yp+yw)=yp+yw:=yF _ (by omega);clear hx hy;by_cases h1:xp+xw≤yp
 ·have d1:decide (xp+xw≤yp)=true:=yD h1;go_enter Tryz.func136,Tryz.ntmps136;go_wp2_with fail;go_ret;exact⟨Ze (by rw[HV.o,d1];rfl),HB.o⟩
 have d1:decide (xp+xw≤yp)=false:=yC h1;go_enter Tryz.func136,Tryz.ntmps136;go_wp2_with fail;go_ret;exact⟨Ze (by rw[HV.o,d1];rfl),HB.o⟩
theorem LN {x:ItemT} {len:Int}:(dW x.name&&(Zw x.width 1 1048576&&(Zw x.pos 0 (len-x.width)&&(Zw x.wt 0 1048576&&(Zw x.hang 0 1048576&&(Zw x.front 0 1048576&&Zw x.back 0 1048576))))))=(fW x&&d9 x len):=by
 have e:Zw x.pos 0 (len-x.width)=(decide (0≤x.pos)&&decide (x.pos≤len-x.width)):=by unfold Zw;rw[Bool.decide_and]
 unfold fW d9;rw[e];generalize dW x.name=a0;generalize Zw x.width 1 1048576=a1;generalize decide (0≤x.pos)=a2;generalize decide (x.pos≤len-x.width)=a3;generalize Zw x.wt 0 1048576=a4;generalize Zw x.hang 0 1048576=a5;generalize Zw x.front 0 1048576=a6;generalize Zw x.back 0 1048576=a7;revert a0 a1 a2 a3 a4 a5 a6 a7
 decide
theorem Np (x:ItemT) (len:Int) (w:World) (hn:x.name.size≤maxLen) (hl:1000≤len∧len≤1048576) :
  Calls Tryz.prog 135 #[x.val,.int .i64 len] w fun e w'=>e=.returned (.bool (fW x&&d9 x len))∧Below w.heap.size w w':=by
 have HB:Y0 (Below w.heap.size w (w.alloc (.cells #[.string x.name,.int .i64 x.pos,.int .i64 x.width,.int .i64 x.wt,.int .i64 x.hang,.int .i64 x.front,.int .i64 x.back] 125))):=(yB _ _).alloc (yA _) _;have lR:=fun W=>o7 x.name hn W;rw[←LN];obtain⟨xn,xp,xw,x3,x4,x5,x6⟩:=x;simp only at*;have Hl:=zh hl;clear hn hl;generalize CR:(dW xn&&(Zw xw 1 1048576&&(Zw xp 0 (len-xw)&&(Zw x3 0 1048576&&(Zw x4 0 1048576&&(Zw x5 0 1048576&&Zw x6 0 1048576))))))=res
 have HR:=zh CR;clear CR;go_enter Tryz.func135,Tryz.ntmps135;go_wp2_with (go_at_call 90;fail);go_at_call 90;refine (lR _).mono ?_;rintro e w' ⟨rfl,rfl⟩;rcases yM (dW xn) with h0|h0;rotate_left
 ·rw[h0] at HR⊢;go_wp2_with fail;go_ret;exact⟨Ze HR.o,HB.o⟩
 rw[h0] at HR⊢;clear h0;go_wp2_with (go_at_call 91;fail);go_at_call 91;refine (bj _ _ _ _).mono ?_;rintro e w' ⟨rfl,rfl⟩;rcases yM (Zw xw 1 1048576) with h1|h1;rotate_left
 ·rw[h1] at HR⊢;go_wp2_with fail;go_ret;exact⟨Ze HR.o,HB.o⟩
 rw[h1] at HR⊢;have hwb:=Zh h1;have v1:IntKind.i64.wrap (len-xw)=len-xw:=yF _ (by have:=Hl.o;omega);clear hwb;clear h1;go_wp2_with (go_at_call 91;fail);go_at_call 91;refine (bj _ _ _ _).mono ?_;rintro e w' ⟨rfl,rfl⟩;rcases yM (Zw xp 0 (len-xw)) with h2|h2;rotate_left
 ·rw[h2] at HR⊢;go_wp2_with fail;go_ret;exact⟨Ze HR.o,HB.o⟩
 rw[h2] at HR⊢;clear h2;go_wp2_with (go_at_call 91;fail);go_at_call 91;refine (bj _ _ _ _).mono ?_;rintro e w' ⟨rfl,rfl⟩;rcases yM (Zw x3 0 1048576) with h3|h3;rotate_left
 ·rw[h3] at HR⊢;go_wp2_with fail;go_ret;exact⟨Ze HR.o,HB.o⟩
 rw[h3] at HR⊢;clear h3;go_wp2_with (go_at_call 91;fail);go_at_call 91;refine (bj _ _ _ _).mono ?_;rintro e w' ⟨rfl,rfl⟩;rcases yM (Zw x4 0 1048576) with h4|h4;rotate_left
 ·rw[h4] at HR⊢;go_wp2_with fail;go_ret;exact⟨Ze HR.o,HB.o⟩
 rw[h4] at HR⊢;clear h4;go_wp2_with (go_at_call 91;fail);go_at_call 91;refine (bj _ _ _ _).mono ?_;rintro e w' ⟨rfl,rfl⟩;rcases yM (Zw x5 0 1048576) with h5|h5;rotate_left
 ·rw[h5] at HR⊢;go_wp2_with fail;go_ret;exact⟨Ze HR.o,HB.o⟩
 rw[h5] at HR⊢;clear h5;go_wp2_with (go_at_call 91;fail);go_at_call 91;refine (bj _ _ _ _).mono ?_;rintro e w' ⟨rfl,rfl⟩;have mV:=zh HR.o;go_wp2_with fail;go_ret;exact⟨Ze HR.o,HB.o⟩
theorem Dz (L:List ByteArray):∀n,rk L n=n ↔ ∀i,i < n→L.getD i default∉L.take i
 | 0=>by simp[rk]
 | n+1=>by
  have ih:=Dz L n;have iD:=Ax L n;rw[rk];by_cases hm:L.getD n default∈L.take n
  ·rw[if_pos hm];constructor
   ·intro h;omega
   intro h;exact absurd hm (h n (by omega))
  rw[if_neg hm];constructor
  ·intro h i hi;rcases Nat.lt_succ_iff_lt_or_eq.1 hi with h2|rfl
   ·exact ih.1 (by omega) i h2
   exact hm
  intro h;rw[ih.2 fun i hi=>h i (by omega)]
theorem BB {α:Type} (f:α→ByteArray) (l:List α):iN (l.map f)=false ↔ ∀i j (hi:i<l.length) (hj:j<l.length),j<i→f l[j]≠f l[i]:=by
 unfold iN;rw[YD];have iD:=Ax (l.map f) (l.map f).length;have h1:=Dz (l.map f) (l.map f).length;have hg:∀i (hi:i<l.length),(l.map f).getD i default=f l[i]:=fun i hi=>by
  rw[yO,YC,yN hi];rfl
 constructor
 ·intro h i j hi hj Mr e;have h2:=h1.1 (by omega) i (by rw[yQ];exact hi);rw[hg i hi] at h2;refine h2 ?_;rw[←e,List.mem_take_iff_getElem];exact⟨j,by rw[yQ];omega,by rw[List.getElem_map]⟩
 intro h;have h2:=h1.2 fun i hi=>by
  rw[yQ] at hi;rw[hg i hi];intro hm;rw[List.mem_take_iff_getElem] at hm;obtain⟨j,hj,e⟩:=hm;rw[yQ] at hj;rw[List.getElem_map] at e;exact h i j hi (by omega) (by omega) e
 omega
def it0:ItemT:=⟨⟨#[]⟩,0,0,0,0,0,0⟩
def br0:BrickT:=⟨⟨#[]⟩,0,0⟩
def CM (l:List ItemT) (i:Nat):ItemT:=l.getD i it0
def Ss (l:List BrickT) (i:Nat):BrickT:=l.getD i br0
theorem il {l:List ItemT} {i:Nat} (h:i<l.length):CM l i=l[i]:=by unfold CM;rw[List.getD_eq_getElem?_getD,List.getElem?_eq_getElem h];rfl
theorem iz {l:List BrickT} {i:Nat} (h:i<l.length):Ss l i=l[i]:=by unfold Ss;rw[List.getD_eq_getElem?_getD,List.getElem?_eq_getElem h];rfl
def qJ (l:List ItemT) (k j:Nat):Bool:=!decide ((CM l j).name=(CM l k).name)&&eV (CM l j) (CM l k)
def fq (l:List ItemT) (len:Int) (k:Nat):Bool:=(fW (CM l k)&&d9 (CM l k) len)&&ic (qJ l k) k
def fI (l:List ItemT) (len:Int):Bool:=decide (l.length≤40)&&ic (fq l len) l.length
theorem tr (x y:ItemT):eV x y=eV y x:=by unfold eV;rw[Bool.or_comm]
theorem KT (l:List ItemT) (len:Int):fI l len=eR l len:=by
 have hR:fI l len=true↔l.length≤40∧∀k (hk:k<l.length),(fW l[k]=true∧d9 l[k] len=true)∧∀j (hj:j<k),l[j].name≠l[k].name∧eV l[j] l[k]=true:=by
  unfold fI;rw[Bool.and_eq_true,yP,jP];refine and_congr_right fun _=>?_;constructor
  ·intro h k hk
   have:=h k hk;unfold fq at this;rw[il hk,Bool.and_eq_true,Bool.and_eq_true,jP] at this;refine⟨this.1,fun j hj=>?_⟩;have h2:=this.2 j hj;unfold qJ at h2;rw[il hk,il (show j<l.length by omega),Bool.and_eq_true,Bool.not_eq_true',YD] at h2;exact h2
  intro h k hk;unfold fq;rw[il hk,Bool.and_eq_true,Bool.and_eq_true,jP];refine⟨(h k hk).1,fun j hj=>?_⟩;unfold qJ;rw[il hk,il (show j<l.length by omega),Bool.and_eq_true,Bool.not_eq_true',YD];exact (h k hk).2 j hj
 have hB:eR l len=true↔l.length≤40∧∀k (hk:k<l.length),(fW l[k]=true∧d9 l[k] len=true)∧∀j (hj:j<k),l[j].name≠l[k].name∧eV l[j] l[k]=true:=by
  unfold eR sh;rw[Bool.and_eq_true,Bool.and_eq_true,yP,Bool.not_eq_true',BB,yP];refine and_congr_right fun _=>?_;constructor
  ·rintro⟨h1,h2⟩ k hk;have h3:=h2 k hk;rw[lz hk,Bool.and_eq_true,Bool.and_eq_true,Bool.not_eq_true',List.any_eq_false] at h3;refine⟨⟨h3.1,h3.2.1⟩,fun j hj=>⟨h1 k j hk (by omega) hj,?_⟩⟩
   have:=h3.2.2 l[j] (by rw[List.mem_take_iff_getElem];exact⟨j,by omega,rfl⟩);rw[tr];simpa using this
  intro h;refine⟨fun i j hi hj Mr=>((h i hi).2 j Mr).1,fun k hk=>?_⟩;rw[lz hk,Bool.and_eq_true,Bool.and_eq_true,Bool.not_eq_true',List.any_eq_false];refine⟨(h k hk).1.1,(h k hk).1.2,fun y hy=>?_⟩;rw[List.mem_take_iff_getElem] at hy;obtain⟨j,hj,rfl⟩:=hy;rw[tr,((h k hk).2 j (by omega)).2];simp
 rw[Bool.eq_iff_iff,hR,hB]
def sV (l:List BrickT) (k j:Nat):Bool:=!decide ((Ss l j).name=(Ss l k).name)
def eT (l:List BrickT) (k:Nat):Bool:=fM (Ss l k)&&ic (sV l k) k
def dZ (l:List BrickT):Bool:=decide (l.length≤8)&&(ic (eT l) l.length&&decide (gP l l.length≤60))
theorem Iq (l:List BrickT):dZ l=dL l:=by
 have h1:ic (eT l) l.length=(!iN (l.map BrickT.name)&&l.all fM):=by
  rw[Bool.eq_iff_iff,Bool.and_eq_true,Bool.not_eq_true',BB,jP,List.all_eq_true];constructor
  ·intro h;have h2:∀k (hk:k<l.length),fM l[k]=true∧∀j (hj:j<k),l[j].name≠l[k].name:=fun k hk=>by
    have:=h k hk;unfold eT at this;rw[iz hk,Bool.and_eq_true,jP] at this;refine⟨this.1,fun j hj=>?_⟩;have h3:=this.2 j hj;unfold sV at h3;rw[iz hk,iz (show j<l.length by omega),Bool.not_eq_true',YD] at h3;exact h3
   refine⟨fun i j hi hj Mr=>(h2 i hi).2 j Mr,fun x hx=>?_⟩;obtain⟨i,hi,rfl⟩:=List.getElem_of_mem hx;exact (h2 i hi).1
  rintro⟨h2,h3⟩ k hk;unfold eT;rw[iz hk,Bool.and_eq_true,jP];refine⟨h3 _ (yV hk),fun j hj=>?_⟩;unfold sV;rw[iz hk,iz (show j<l.length by omega),Bool.not_eq_true',YD];exact h2 k j hk (by omega) hj
 unfold dZ dL;rw[h1,Bool.and_assoc]
def nH (l:List Int) (len:Int) (i:Nat):Bool:=Zw (js l i) 0 len&&(decide (i=0)||decide (js l (i-1)<js l i))
theorem vE {l:List Int} {n:Nat} (h:iK l n=true):∀i j,i≤j→j<n→js l i≤js l j:=by
  unfold iK at h;rw[yP] at h;intro i j hij
  induction j with
  | zero=>
   intro _; obtain rfl:i=0 := by omega
   exact Int.le_refl _
  | succ j ih=>
    intro hj;rcases Nat.lt_or_ge j i with h1|h1
    · obtain rfl:i=j+1:=by omega
      exact Int.le_refl _
    have h2:=ih h1 (by omega);have h3:=h (j+1) hj (by omega);rw[Nat.add_sub_cancel] at h3;omega
theorem KS (l:List Int) (len:Int):(Zw (l.length:Int) 2 10&&ic (nH l len) l.length)=fH l len:=by
 rw[Bool.eq_iff_iff];unfold fH;rw[Bool.and_eq_true,Bool.and_eq_true,Bool.and_eq_true,Bool.and_eq_true];refine and_congr_right fun h0=>?_;have h0':=Zh h0;rw[jP,Bool.not_eq_true',Bool.not_eq_true',YD,YD];constructor
 ·intro h;have h1:∀i,i<l.length→(0≤js l i∧js l i≤len)∧(i=0∨js l (i-1)<js l i):=fun i hi=>by
   have:=h i hi;unfold nH at this;rw[Bool.and_eq_true,Bool.or_eq_true,yP,yP,nY] at this;exact this
  refine⟨?_,?_,?_⟩
  ·have:=(h1 0 (by omega)).1;omega
  ·have:=(h1 (l.length-1) (by omega)).1;omega
  unfold iK;rw[yP];intro i hi h2;rcases (h1 i hi).2 with h3|h3
  ·omega
  exact h3
 rintro⟨h1,h2,h3⟩ i hi;have m1:=vE h3 0 i (by omega) hi;have m2:=vE h3 i (l.length-1) (by omega) (by omega);unfold nH;rw[Bool.and_eq_true,Bool.or_eq_true,yP,yP,nY];refine⟨⟨by omega,by omega⟩,?_⟩;by_cases hz:i=0
 ·exact .inl hz
 unfold iK at h3;rw[yP] at h3;exact .inr (h3 i hi (by omega))
def mf (s:SetT):Bool :=
 dW s.name&&(Zw s.depth 0 1048576&&(Zw s.low 0 s.high&&(Zw s.high 0 1048576&&(Zw s.len 1000 1048576&&((s.len%1000==0)&&(Zw (s.lines.length:Int) 2 10&&(Zw s.pipe 0 1048576&&(Zw s.arbor 0 1048576&&(Zw s.purch 1 2&&(Zw s.most 1 67108864&&(Zw s.brake 0 67108864&&(ic (nH s.lines s.len) s.lines.length&&(fI s.items s.len&&dZ s.bricks)))))))))))))
theorem Ub (s:SetT):mf s=cA s:=by
 unfold mf cA;rw[KT,Iq,←KS];have e1:Zw s.low 0 s.high=(decide (0≤s.low)&&decide (s.low≤s.high)):=by unfold Zw;rw[Bool.decide_and]
 rw[e1];have e2:(decide (0≤s.low)&&(decide (s.low≤s.high)&&Zw s.high 0 1048576))=(decide (0≤s.low)&&(decide (s.low≤s.high)&&decide (s.high≤1048576))):=by
  rw[Bool.eq_iff_iff];simp only[Bool.and_eq_true,decide_eq_true_eq,nY];omega
 generalize dW s.name=a0;generalize Zw s.depth 0 1048576=a1;generalize decide (0≤s.low)=a2 at*;generalize decide (s.low≤s.high)=a3 at*;generalize Zw s.high 0 1048576=a4 at*;generalize decide (s.high≤1048576)=a5 at*;generalize (Zw s.len 1000 1048576)=a6;generalize (s.len%1000==0)=a7;generalize Zw (s.lines.length:Int) 2 10=a8;generalize ic (nH s.lines s.len) s.lines.length=a9;generalize Zw s.pipe 0 1048576=b0
 generalize Zw s.arbor 0 1048576=b1;generalize Zw s.purch 1 2=b2;generalize Zw s.most 1 67108864=b3;generalize Zw s.brake 0 67108864=b4;generalize eR s.items s.len=b5;generalize dL s.bricks=b6;have e3:∀x,(a2&&(a3&&(a4&&x)))=(a2&&(a3&&(a5&&x))):=fun x=>by
  have:=congrArg (fun y=>y&&x) e2;simpa only[Bool.and_assoc] using this
 simp only[Bool.and_assoc];rw[e3];cases a0 <;> cases a1 <;> cases a2 <;> cases a3 <;> cases a5 <;> cases a6 <;> cases a7 <;> cases a8 <;> simp only[Bool.false_and,Bool.and_false,Bool.true_and];rw[Bool.and_left_comm a9 b0,Bool.and_left_comm a9 b1,Bool.and_left_comm a9 b2,Bool.and_left_comm a9 b3,Bool.and_left_comm a9 b4]
theorem sd {l:List ItemT} {len:Int} {k:Nat} (hk:k<l.length) (h:fq l len k=false):fI l len=false:=by
 unfold fI;rw[qu hk h,Bool.and_false]
theorem CL {l:List ItemT} {len:Int} {k:Nat} (hk:k<l.length) (h:(fW l[k]&&d9 l[k] len)=false):fq l len k=false:=by
 unfold fq;rw[il hk,h,Bool.false_and]
theorem sX {l:List ItemT} {len:Int} {k j:Nat} (hj:j<k) (h:qJ l k j=false):fq l len k=false:=by
 unfold fq;rw[qu hj h,Bool.and_false]
theorem sY {l:List ItemT} {len:Int} {k:Nat} (hk:k<l.length) (h:(fW l[k]&&d9 l[k] len)=true) (hl:len≤1048576):zg l[k]:=by
 rw[Bool.and_eq_true] at h;exact pU h.2 hl
theorem Qr {l:List ItemT} {k j:Nat} (hk:k<l.length) (hj:j<l.length):qJ l k j=(!decide (l[j].name=l[k].name)&&eV l[j] l[k]):=by
 unfold qJ;rw[il hk,il hj]
theorem Kj {l:List ItemT} {len:Int} {k j:Nat} (h:ic (fq l len) k=true) (hj:j<k) (hk:k≤l.length) (hl:len≤1048576):zg (l[j]'(by omega)):=by
 have:=IB h hj;unfold fq at this;rw[il (show j<l.length by omega),Bool.and_eq_true] at this;exact sY (by omega) this.1 hl
theorem Nl (v:Value) (s:SetT) (w:World) (hv:SetAt w w.heap.size v s) (hn:∀x∈s.items,x.name.size≤maxLen) (dD:1000≤s.len∧s.len≤1048576) :
  Calls Tryz.prog 92 #[v] w fun e w'=>e=.returned (.bool (fI s.items s.len))∧Below w.heap.size w w':=by
 obtain⟨Al,cl,Ai,ci,Ab,cb,rfl,hL,hI,hB⟩:=hv;obtain⟨_,_,e,Ms,X3,Rh⟩:=hI.open_;injection e with e1 _ e2;subst e1 e2;have HI:=zh Rh;have HN:=zh hn;have sN:=zh dD;have HD:=zh (Blk.new w 37 (zA s Al cl Ai ci Ab cb));have cw:=zh ((yB _ w).alloc (yA _) (.cells (zA s Al cl Ai ci Ab cb) 37));unfold maxLen at X3;unfold dO;clear hL hI hB Rh hn dD;by_cases c0:40<(s.items.length:Int)
 ·have d0:decide (40<(s.items.length:Int))=true:=yD c0;have HV:Y0 (fI s.items s.len=false):=by unfold Y0 fI;rw[decide_eq_false (show ¬s.items.length≤40 by omega)];rfl
  go_enter Tryz.func92,Tryz.ntmps92;go_wp2;go_ret;exact⟨Ze HV.o.symm,cw.o⟩
 have d0:decide (40<(s.items.length:Int))=false:=yC c0;have HV:Y0 (fI s.items s.len=ic (fq s.items s.len) s.items.length):=by unfold Y0 fI;rw[decide_eq_true (show s.items.length≤40 by omega)];rfl
 go_enter Tryz.func92,Tryz.ntmps92;go_wp2;generalize w.alloc (.cells (zA s Al cl Ai ci Ab cb) 37)=W1 at*;go_loopw [3] (fun x wr=>∃k:Nat,k≤s.items.length∧x=.int .i64 k∧Y0 (ic (fq s.items s.len) k=true)∧Below W1.heap.size W1 wr) (fun x _=>s.items.length-(intOf x).toNat)
 case atStart=>exact⟨0,yI _,rfl,kU _,yB _ _⟩
 obtain⟨k,hk,rfl,HU,aG⟩:=hrel;have HDr:=zh (HD.o.below aG HD.o.lt);have Hd:=cw.o.trans (aG.mono cw.o.size);have dN:=HDr.o.cell 11;have z4:=HDr.o.cell 4;simp only[aB,aD,aA] at dN z4;by_cases aK:k<s.items.length
 ·obtain⟨b,off,rfl,hb,hc⟩:=HI.o k aK;have HC:=zh hc;clear hc;have i1:(0:Int)≤(k:Int):=yE _;have i2:(k:Int)<(s.items.length:Int):=by omega
  go_wp2;have hc:=HC.o;have y0:=YL ((Hd.cell (p:=⟨b,off+k*7,none⟩) hb).trans (hc k aK).1);have y1:=YL ((Hd.cell (p:=⟨b,off+k*7+1,none⟩) hb).trans (hc k aK).2.1);have y2:=YL ((Hd.cell (p:=⟨b,off+k*7+2,none⟩) hb).trans (hc k aK).2.2.1);have y3:=YL ((Hd.cell (p:=⟨b,off+k*7+3,none⟩) hb).trans (hc k aK).2.2.2.1);have y4:=YL ((Hd.cell (p:=⟨b,off+k*7+4,none⟩) hb).trans (hc k aK).2.2.2.2.1);have y5:=YL ((Hd.cell (p:=⟨b,off+k*7+5,none⟩) hb).trans (hc k aK).2.2.2.2.2.1)
  have y6:=YL ((Hd.cell (p:=⟨b,off+k*7+6,none⟩) hb).trans (hc k aK).2.2.2.2.2.2);have x4:=YL z4;have x11:=YL dN;have qkK:=fun (w':World) (_:Below wr.heap.size wr w')=>Np s.items[k] s.len w' (HN.o _ (yV aK)) sN.o;have Mu:=HeldB.call qkK;clear qkK;clear hc;rcases yM (fW s.items[k]&&d9 s.items[k] s.len) with h1|h1;rotate_left
  ·have cH:Y0 (fI s.items s.len=false):=sd aK (CL aK h1);rw[h1] at Mu;clear h1;refine bJ (by kernel_rfl) (by kernel_rfl) ?_
   repeat (go_big_quiet_step ((go_at_call 135;exact Mu _)))
   refine YE ?_;rintro w5 ⟨⟨w6,bf⟩,rfl⟩;go_wp2_with fail;go_ret;exact⟨Ze cH.o.symm,Hd.trans (bf.mono Hd.size)⟩
  have HP:=zh (sY aK h1 sN.o.2);have qki:=zh h1;rw[h1] at Mu;clear h1;refine bJ (by kernel_rfl) (by kernel_rfl) ?_
  repeat (go_big_quiet_step ((go_at_call 135;exact Mu _)))
  refine YE ?_;rintro w5 ⟨⟨w6,bf⟩,rfl⟩;clear y0 y1 y2 y3 y4 y5 y6 x4 x11 Mu z4 dN;have qkH:=Hd.trans (bf.mono Hd.size);have qq:=zh (HDr.o.below bf HDr.o.lt);have Hf:=aG.trans (bf.mono aG.size);clear bf;go_wp2_with fail;go_loopw [4] (fun x wi=>∃j:Nat,j≤k∧x=.int .i64 j∧Y0 (ic (qJ s.items k) j=true)∧Below w5.heap.size w5 wi) (fun x _=>k-(intOf x).toNat)
  case atStart=>exact⟨0,yI _,rfl,kU _,yB _ _⟩
  obtain⟨j,hj,rfl,LV,hbi⟩:=hrel;have HDi:=zh (qq.o.below hbi qq.o.lt);have mU:=qkH.trans (hbi.mono qkH.size);have dN:=HDi.o.cell 11;simp only[aB,aD,aA] at dN;by_cases Lg:j<k
  ·have pb:j<s.items.length:=by omega
   have j1:(0:Int)≤(j:Int):=yE _;have j2:(j:Int)<(s.items.length:Int):=by omega
   go_wp2;have hc:=HC.o;have y0:=YL ((mU.cell (p:=⟨b,off+k*7,none⟩) hb).trans (hc k aK).1);have y1:=YL ((mU.cell (p:=⟨b,off+k*7+1,none⟩) hb).trans (hc k aK).2.1);have y2:=YL ((mU.cell (p:=⟨b,off+k*7+2,none⟩) hb).trans (hc k aK).2.2.1);have y3:=YL ((mU.cell (p:=⟨b,off+k*7+3,none⟩) hb).trans (hc k aK).2.2.2.1);have y4:=YL ((mU.cell (p:=⟨b,off+k*7+4,none⟩) hb).trans (hc k aK).2.2.2.2.1);have y5:=YL ((mU.cell (p:=⟨b,off+k*7+5,none⟩) hb).trans (hc k aK).2.2.2.2.2.1)
   have y6:=YL ((mU.cell (p:=⟨b,off+k*7+6,none⟩) hb).trans (hc k aK).2.2.2.2.2.2);have u0:=YL ((mU.cell (p:=⟨b,off+j*7,none⟩) hb).trans (hc j pb).1);have u1:=YL ((mU.cell (p:=⟨b,off+j*7+1,none⟩) hb).trans (hc j pb).2.1);have u2:=YL ((mU.cell (p:=⟨b,off+j*7+2,none⟩) hb).trans (hc j pb).2.2.1);have u3:=YL ((mU.cell (p:=⟨b,off+j*7+3,none⟩) hb).trans (hc j pb).2.2.2.1);have u4:=YL ((mU.cell (p:=⟨b,off+j*7+4,none⟩) hb).trans (hc j pb).2.2.2.2.1)
   have u5:=YL ((mU.cell (p:=⟨b,off+j*7+5,none⟩) hb).trans (hc j pb).2.2.2.2.2.1);have u6:=YL ((mU.cell (p:=⟨b,off+j*7+6,none⟩) hb).trans (hc j pb).2.2.2.2.2.2);have x11:=YL dN;have qkJ:=fun (w':World) (_:Below wr.heap.size wr w')=>Nn s.items[j] s.items[k] w' (Kj HU.o Lg hk sN.o.2) HP.o;have Ey:=HeldB.call qkJ;clear qkJ;have HPq:=zh (Qr aK pb);clear hc;by_cases hq:s.items[j].name=s.items[k].name
   ·have hqb:(s.items[j].name.toList==s.items[k].name.toList)=true:=by rw[qA];simpa using hq
    have cH:Y0 (fI s.items s.len=false):=sd aK (sX Lg (by rw[HPq.o,yD hq];rfl));clear hq Ey;refine bJ (by kernel_rfl) (by kernel_rfl) ?_
    repeat (go_big_quiet_step (fail))
    refine YE ?_;rintro w7 ⟨⟨w8,gu⟩,rfl⟩;go_wp2_with fail;go_ret;exact⟨Ze cH.o.symm,mU.trans (gu.mono mU.size)⟩
   have hqb:(s.items[j].name.toList==s.items[k].name.toList)=false:=by rw[qA];simpa using hq
   have qk5:Y0 (qJ s.items k j=eV s.items[j] s.items[k]):=by unfold Y0;rw[HPq.o,decide_eq_false hq];rfl
   clear hq;rcases yM (eV s.items[j] s.items[k]) with h2|h2;rotate_left
   ·have cH:Y0 (fI s.items s.len=false):=sd aK (sX Lg (by rw[qk5.o,h2]));rw[h2] at Ey;clear h2;refine bJ (by kernel_rfl) (by kernel_rfl) ?_
    repeat (go_big_quiet_step ((go_at_call 136;exact Ey _)))
    refine YE ?_;rintro w7 ⟨⟨w8,gu⟩,rfl⟩;go_wp2_with fail;go_ret;exact⟨Ze cH.o.symm,mU.trans (gu.mono mU.size)⟩
   have HU3:=zh (jH LV.o (show qJ s.items k j=true by rw[qk5.o,h2]));rw[h2] at Ey;clear h2;refine bJ (by kernel_rfl) (by kernel_rfl) ?_
   repeat (go_big_quiet_step ((go_at_call 136;exact Ey _)))
   refine YE ?_;rintro w7 ⟨⟨w8,gu⟩,rfl⟩;clear y0 y1 y2 y3 y4 y5 y6 u0 u1 u2 u3 u4 u5 u6 x11 Ey;go_wp2_with fail;go_roundw
   case rel=>exact⟨j+1,by omega,by go_num,HU3,hbi.trans (gu.mono hbi.size)⟩
   simp[intOf];omega
  obtain rfl:j=k:=by omega
  have HU4:=zh (jH HU.o (show fq s.items s.len j=true by unfold fq;rw[il aK,qki.o,LV.o];rfl));go_wp2_with fail;go_roundw
  case rel=>exact⟨j+1,by omega,by go_num,HU4,Hf.trans (hbi.mono Hf.size)⟩
  simp[intOf];omega
 obtain rfl:k=s.items.length:=by omega
 go_wp2;go_ret;exact⟨Ze (by rw[HV.o];exact HU.o.symm),Hd⟩
theorem DJ {l:List BrickT} {k:Nat} (hk:k<l.length) (h:fM l[k]=false):eT l k=false:=by
 unfold eT;rw[iz hk,h,Bool.false_and]
theorem DI {l:List BrickT} {k j:Nat} (hj:j<k) (h:sV l k j=false):eT l k=false:=by
 unfold eT;rw[qu hj h,Bool.and_false]
theorem Qw {l:List BrickT} {k j:Nat} (hk:k<l.length) (hj:j<l.length):sV l k j = !decide (l[j].name=l[k].name):=by
 unfold sV;rw[iz hk,iz hj]
theorem wC {l:List BrickT} {k:Nat} (hk:k<l.length) (h:eT l k=false):dZ l=false:=by
 unfold dZ;rw[qu hk h,Bool.false_and,Bool.and_false]
theorem Ir {l:List BrickT} {k:Nat} (h:ic (eT l) k=true) (hk:k≤l.length):0≤gP l k∧gP l k≤60*k:=by
 refine Sn ?_ hk;rw[List.all_eq_true];intro x hx;rw[List.mem_take_iff_getElem] at hx;obtain⟨i,hi,rfl⟩:=hx
 have:=IB h (show i<k by omega);unfold eT at this;rw[iz (show i<l.length by omega),Bool.and_eq_true] at this;exact this.1
theorem K9 (v:Value) (l:List BrickT) (B:Nat) (w:World) (hl:BricksAt w B v l) (hn:∀x∈l,x.name.size≤maxLen) :
  Calls Tryz.prog 93 #[v] w fun e w'=>e=.returned (.bool (dZ l))∧∃q,w.drewN q=w':=by
 obtain⟨A,c,rfl,kG,eH,aL⟩:=hl.open_;unfold maxLen at eH;have HC:=zh aL;have HN:=zh hn;clear hl aL hn;by_cases c0:8<(l.length:Int)
 ·have d0:decide (8<(l.length:Int))=true:=yD c0;have HV:Y0 (dZ l=false):=by unfold Y0 dZ;rw[decide_eq_false (show ¬l.length≤8 by omega)];rfl
  go_enter Tryz.func93,Tryz.ntmps93;go_wp2;go_ret;exact⟨Ze HV.o.symm,0,rfl⟩
 have d0:decide (8<(l.length:Int))=false:=yC c0;have HV:Y0 (dZ l=(ic (eT l) l.length&&decide (gP l l.length≤60))):=by unfold Y0 dZ;rw[decide_eq_true (show l.length≤8 by omega)];rfl
 have h8:=zh (show l.length≤8 by omega);go_enter Tryz.func93,Tryz.ntmps93;go_wp2;go_loopw [4,3] (fun x m wr=>∃k:Nat,k≤l.length∧x=.int .i64 k∧m=.int .i64 (gP l k)∧Y0 (ic (eT l) k=true)∧∃q,wr=w.drewN q) (fun x _ _=>l.length-(intOf x).toNat)
 case atStart=>exact⟨0,yI _,rfl,rfl,kU _,0,rfl⟩
 obtain⟨k,hk,rfl,rfl,HU,q,rfl⟩:=hrel;by_cases aK:k<l.length
 ·obtain⟨b,off,rfl,hb,hc⟩:=HC.o k aK;have Yj:=zh hc;have y0:=(hc k aK).1;have y1:=(hc k aK).2.1;have y2:=(hc k aK).2.2;have lR:=fun W=>o7 l[k].name (HN.o _ (yV aK)) W;have Bb:Y0 (fM l[k]=(dW l[k].name&&(Zw l[k].wt 1 1048576&&Zw l[k].cnt 0 60))):=rfl;have iM:=zh (fun h:fM l[k]=false=>wC aK (DJ aK h));have HCn:=zh (qi l k aK);have i1:(0:Int)≤(k:Int):=yE _;have i2:(k:Int)<(l.length:Int):=by omega
  clear hc;go_wp2_with (go_at_call 90;fail);go_at_call 90;refine (lR _).mono ?_;rintro e w' ⟨rfl,rfl⟩;rcases yM (dW l[k].name) with h0|h0;rotate_left
  ·have cH:Y0 (dZ l=false):=iM.o (by rw[Bb.o,h0];rfl);rw[h0];go_wp2_with fail;go_ret;exact⟨Ze cH.o.symm,_,rfl⟩
  rw[h0] at Bb⊢;clear h0;go_wp2_with (go_at_call 91;fail);go_at_call 91;refine (bj _ _ _ _).mono ?_;rintro e w' ⟨rfl,rfl⟩;rcases yM (Zw l[k].wt 1 1048576) with h1|h1;rotate_left
  ·have cH:Y0 (dZ l=false):=iM.o (by rw[Bb.o,h1];rfl);rw[h1];go_wp2_with fail;go_ret;exact⟨Ze cH.o.symm,_,rfl⟩
  rw[h1] at Bb⊢;clear h1;go_wp2_with (go_at_call 91;fail);go_at_call 91;refine (bj _ _ _ _).mono ?_;rintro e w' ⟨rfl,rfl⟩;rcases yM (Zw l[k].cnt 0 60) with h2|h2;rotate_left
  ·have cH:Y0 (dZ l=false):=iM.o (by rw[Bb.o,h2];rfl);rw[h2];go_wp2_with fail;go_ret;exact⟨Ze cH.o.symm,_,rfl⟩
  rw[h2] at Bb⊢;have hcb:=Zh h2;have jL:=Ir HU.o hk;have v1:IntKind.i64.wrap (gP l k+l[k].cnt)=gP l k+l[k].cnt:=yF _ (by have:=h8.o;omega);have qki:Y0 (fM l[k]=true):=by unfold Y0;rw[Bb.o];rfl
  clear h2 hcb jL Bb;go_wp2_with fail;clear v1 y0 y1 y2;generalize hQ:q=q0;clear hQ;go_loopw [5] (fun x wr=>∃j:Nat,j≤k∧x=.int .i64 j∧Y0 (ic (sV l k) j=true)∧∃q,wr=w.drewN q) (fun x _=>k-(intOf x).toNat)
  case atStart=>exact⟨0,yI _,rfl,kU _,_,rfl⟩
  obtain⟨j,hj,rfl,LV,q1,rfl⟩:=hrel;by_cases Lg:j<k
  ·have pb:j<l.length:=by omega
   have y0:=(Yj.o k aK).1;have u0:=(Yj.o j pb).1;have j1:(0:Int)≤(j:Int):=yE _;have j2:(j:Int)<(l.length:Int):=by omega
   have HPq:=zh (Qw aK pb);by_cases hq:l[j].name=l[k].name
   ·have hqb:(l[j].name.toList==l[k].name.toList)=true:=by rw[qA];simpa using hq
    have cH:Y0 (dZ l=false):=wC aK (DI Lg (by rw[HPq.o,yD hq];rfl));clear hq;go_wp2;go_quiet (fail);go_wp2;go_ret;exact⟨Ze cH.o.symm,q2⟩
   have hqb:(l[j].name.toList==l[k].name.toList)=false:=by rw[qA];simpa using hq
   have HU3:=zh (jH LV.o (show sV l k j=true by rw[HPq.o,yC hq];rfl));clear hq;go_wp2;go_quiet (fail);go_wp2;go_roundw
   case rel=>exact⟨j+1,by omega,by go_num,HU3,_,rfl⟩
   simp[intOf];omega
  obtain rfl:j=k:=by omega
  have HU4:=zh (jH HU.o (show eT l j=true by unfold eT;rw[iz aK,qki.o,LV.o];rfl));go_wp2;go_roundw
  case rel=>exact⟨j+1,by omega,by go_num,by rw[HCn.o],HU4,_,rfl⟩
  simp[intOf];omega
 obtain rfl:k=l.length:=by omega
 have cH:Y0 (dZ l=decide (gP l l.length≤60)):=by unfold Y0;rw[HV.o,HU.o];rfl
 go_wp2;go_ret;exact⟨Ze cH.o.symm,_,rfl⟩
theorem QF {w:World} {B:Nat} {A:Option Addr} {n c:Nat} {l:List Int} (h:ct w B (.slice A n c) l):n=l.length∧n≤c∧c≤maxLen∧∀k (_:k<l.length),∃b off,A=some ⟨b,off,none⟩∧b<B∧∀j (_:j<l.length),w.cell? ⟨b,off+j,none⟩=some (.int .i64 (js l j)):=by
 obtain⟨A',c',e,h1,h2,h3⟩:=h.open_;injection e with e1 e2 e3;subst e1 e2 e3;refine⟨rfl,h1,h2,fun k hk=>?_⟩;obtain⟨b,off,e,hb,hc⟩:=h3 k hk;refine⟨b,off,e,hb,fun j hj=>?_⟩;rw[hc j hj];unfold js;rw[yO,yN hj];rfl
theorem pC (v:Value) (s:SetT) (w:World) (hv:SetAt w w.heap.size v s) (hn:SetNames s) :
  Calls Tryz.prog 43 #[v] w fun e w'=>e=.returned (.bool (cA s))∧Below w.heap.size w w':=by
 rw[←Ub];have lR:=fun W=>o7 s.name hn.name W;have qk0:=zh fun W (hb:Below w.heap.size w W)=>hv.grow hb;have HIt:=zh fun dD W (hb:Below w.heap.size w W)=>Nl v s W (qk0.o W hb) hn.items dD;have HBr:=zh fun u (hu:BricksAt w w.heap.size u s.bricks) W (hb:Below w.heap.size w W)=>K9 u s.bricks _ W (hu.below hb (yA _)) hn.bricks;obtain⟨Al,cl,Ai,ci,Ab,cb,rfl,hL,hI,hB⟩:=hv;have vwG:=zh (HBr.o _ hB);obtain⟨-,Be,CV,hlc⟩:=QF hL
 unfold maxLen at CV;have uw:=zh hlc;have HV:Y0 (mf s=(dW s.name&&(Zw s.depth 0 1048576&&(Zw s.low 0 s.high&&(Zw s.high 0 1048576&&(Zw s.len 1000 1048576&&((s.len%1000==0)&&(Zw (s.lines.length:Int) 2 10&&(Zw s.pipe 0 1048576&&(Zw s.arbor 0 1048576&&(Zw s.purch 1 2&&(Zw s.most 1 67108864&&(Zw s.brake 0 67108864&&(ic (nH s.lines s.len) s.lines.length&&(fI s.items s.len&&dZ s.bricks))))))))))))))):=rfl
 have HD:=zh (Blk.new w 37 (zA s Al cl Ai ci Ab cb));have cw:=zh ((yB _ w).alloc (yA _) (.cells (zA s Al cl Ai ci Ab cb) 37));clear hL hI hB hn HBr qk0 hlc;unfold dO at*;go_enter Tryz.func43,Tryz.ntmps43;go_wp2_with (go_at_call 90;fail);generalize w.alloc (.cells (zA s Al cl Ai ci Ab cb) 37)=W1 at*;have z0:=HD.o.cell 0;have z1:=HD.o.cell 1;have z2:=HD.o.cell 2;have z3:=HD.o.cell 3;have z4:=HD.o.cell 4;have z5:=HD.o.cell 5;have z6:=HD.o.cell 6;have z7:=HD.o.cell 7;have z8:=HD.o.cell 8;have z9:=HD.o.cell 9;have fD:=HD.o.cell 10;have dN:=HD.o.cell 11;have fa:=HD.o.cell 12
 simp only[aB,aD,aA] at z0 z1 z2 z3 z4 z5 z6 z7 z8 z9 fD dN fa;go_at_call 90;refine (lR _).mono ?_;rintro e w' ⟨rfl,rfl⟩;rcases yM (dW s.name) with h0|h0;rotate_left
 ·have cH:Y0 (mf s=false):=by unfold Y0;rw[HV.o,h0];rfl
  rw[h0];go_wp2_with fail;go_ret;exact⟨Ze cH.o.symm,cw.o⟩
 rw[h0,Bool.true_and] at HV;rw[h0];clear h0;go_wp2_with (go_at_call 91;fail);go_at_call 91;refine (bj _ _ _ _).mono ?_;rintro e w' ⟨rfl,rfl⟩;rcases yM (Zw s.depth 0 1048576) with h1|h1;rotate_left
 ·have cH:Y0 (mf s=false):=by unfold Y0;rw[HV.o,h1];rfl
  rw[h1];go_wp2_with fail;go_ret;exact⟨Ze cH.o.symm,cw.o⟩
 rw[h1,Bool.true_and] at HV;rw[h1];clear h1;go_wp2_with (go_at_call 91;fail);go_at_call 91;refine (bj _ _ _ _).mono ?_;rintro e w' ⟨rfl,rfl⟩;rcases yM (Zw s.low 0 s.high) with h2|h2;rotate_left
 ·have cH:Y0 (mf s=false):=by unfold Y0;rw[HV.o,h2];rfl
  rw[h2];go_wp2_with fail;go_ret;exact⟨Ze cH.o.symm,cw.o⟩
 rw[h2,Bool.true_and] at HV;rw[h2];clear h2;go_wp2_with (go_at_call 91;fail);go_at_call 91;refine (bj _ _ _ _).mono ?_;rintro e w' ⟨rfl,rfl⟩;rcases yM (Zw s.high 0 1048576) with h3|h3;rotate_left
 ·have cH:Y0 (mf s=false):=by unfold Y0;rw[HV.o,h3];rfl
  rw[h3];go_wp2_with fail;go_ret;exact⟨Ze cH.o.symm,cw.o⟩
 rw[h3,Bool.true_and] at HV;rw[h3];clear h3;go_wp2_with (go_at_call 91;fail);go_at_call 91;refine (bj _ _ _ _).mono ?_;rintro e w' ⟨rfl,rfl⟩;rcases yM (Zw s.len 1000 1048576) with h4|h4;rotate_left
 ·have cH:Y0 (mf s=false):=by unfold Y0;rw[HV.o,h4];rfl
  rw[h4];go_wp2_with fail;go_ret;exact⟨Ze cH.o.symm,cw.o⟩
 rw[h4,Bool.true_and] at HV;rw[h4];have dD:=Zh h4;have sN:=zh dD;have htm:s.len.tmod 1000=s.len%1000:=Int.tmod_eq_emod_of_nonneg (by omega);have vr:IntKind.i64.wrap (s.len%1000)=s.len%1000:=yF _ (by omega);clear dD;clear h4;rcases yM ((s.len%1000==0)) with h5|h5;rotate_left
 ·have cH:Y0 (mf s=false):=by unfold Y0;rw[HV.o,h5];rfl
  have dz:(s.len%1000 != 0)=true:=by unfold bne;rw[h5];rfl
  clear h5;go_wp2_with fail;go_ret;exact⟨Ze cH.o.symm,cw.o⟩
 have dz:(s.len%1000 != 0)=false:=by unfold bne;rw[h5];rfl
 rw[h5,Bool.true_and] at HV;clear h5;go_wp2_with (go_at_call 91;fail);go_at_call 91;refine (bj _ _ _ _).mono ?_;rintro e w' ⟨rfl,rfl⟩;rcases yM (Zw (s.lines.length:Int) 2 10) with h6|h6;rotate_left
 ·have cH:Y0 (mf s=false):=by unfold Y0;rw[HV.o,h6];rfl
  rw[h6];go_wp2_with fail;go_ret;exact⟨Ze cH.o.symm,cw.o⟩
 rw[h6,Bool.true_and] at HV;rw[h6];clear h6;go_wp2_with (go_at_call 91;fail);go_at_call 91;refine (bj _ _ _ _).mono ?_;rintro e w' ⟨rfl,rfl⟩;rcases yM (Zw s.pipe 0 1048576) with h7|h7;rotate_left
 ·have cH:Y0 (mf s=false):=by unfold Y0;rw[HV.o,h7];rfl
  rw[h7];go_wp2_with fail;go_ret;exact⟨Ze cH.o.symm,cw.o⟩
 rw[h7,Bool.true_and] at HV;rw[h7];clear h7;go_wp2_with (go_at_call 91;fail);go_at_call 91;refine (bj _ _ _ _).mono ?_;rintro e w' ⟨rfl,rfl⟩;rcases yM (Zw s.arbor 0 1048576) with h8|h8;rotate_left
 ·have cH:Y0 (mf s=false):=by unfold Y0;rw[HV.o,h8];rfl
  rw[h8];go_wp2_with fail;go_ret;exact⟨Ze cH.o.symm,cw.o⟩
 rw[h8,Bool.true_and] at HV;rw[h8];clear h8;go_wp2_with (go_at_call 91;fail);go_at_call 91;refine (bj _ _ _ _).mono ?_;rintro e w' ⟨rfl,rfl⟩;rcases yM (Zw s.purch 1 2) with h9|h9;rotate_left
 ·have cH:Y0 (mf s=false):=by unfold Y0;rw[HV.o,h9];rfl
  rw[h9];go_wp2_with fail;go_ret;exact⟨Ze cH.o.symm,cw.o⟩
 rw[h9,Bool.true_and] at HV;rw[h9];clear h9;go_wp2_with (go_at_call 91;fail);go_at_call 91;refine (bj _ _ _ _).mono ?_;rintro e w' ⟨rfl,rfl⟩;rcases yM (Zw s.most 1 67108864) with Bg|Bg;rotate_left
 ·have cH:Y0 (mf s=false):=by unfold Y0;rw[HV.o,Bg];rfl
  rw[Bg];go_wp2_with fail;go_ret;exact⟨Ze cH.o.symm,cw.o⟩
 rw[Bg,Bool.true_and] at HV;rw[Bg];clear Bg;go_wp2_with (go_at_call 91;fail);go_at_call 91;refine (bj _ _ _ _).mono ?_;rintro e w' ⟨rfl,rfl⟩;rcases yM (Zw s.brake 0 67108864) with J6|J6;rotate_left
 ·have cH:Y0 (mf s=false):=by unfold Y0;rw[HV.o,J6];rfl
  rw[J6];go_wp2_with fail;go_ret;exact⟨Ze cH.o.symm,cw.o⟩
 rw[J6,Bool.true_and] at HV;rw[J6];clear J6;go_wp2_with fail;clear z0 z1 z2 z3 z6 z7 z8 z9 fD dN htm vr dz;go_loopw [3] (fun x wr=>∃k:Nat,k≤s.lines.length∧x=.int .i64 k∧Y0 (ic (nH s.lines s.len) k=true)∧∃q,wr=W1.drewN q) (fun x _=>s.lines.length-(intOf x).toNat)
 case atStart=>exact⟨0,yI _,rfl,kU _,0,rfl⟩
 obtain⟨k,hk,rfl,HU,q,rfl⟩:=hrel;by_cases aK:k<s.lines.length
 ·obtain⟨b,off,rfl,hb,hc⟩:=uw.o k aK;have y0:=(cw.o.cell (p:=⟨b,off+k,none⟩) hb).trans (hc k aK);have i1:(0:Int)≤(k:Int):=yE _;have i2:(k:Int)<(s.lines.length:Int):=by omega
  have wI:Y0 (nH s.lines s.len k=(Zw (js s.lines k) 0 s.len&&(decide (k=0)||decide (js s.lines (k-1)<js s.lines k)))):=rfl;have iM:=zh (fun h:nH s.lines s.len k=false=>show mf s=false by rw[HV.o,qu aK h];rfl);have ub:=fun W=>bj (js s.lines k) 0 s.len W;rcases yM (Zw (js s.lines k) 0 s.len) with h0|h0;rotate_left
  ·have cH:Y0 (mf s=false):=iM.o (by rw[wI.o,h0];rfl);rw[h0] at ub;clear h0 hc;go_wp2;go_quiet ((go_at_call 91;exact o8 (ub _)));go_wp2;go_ret;exact⟨Ze cH.o.symm,Zf (Zf cw.o _) _⟩
  rw[h0] at ub wI;clear h0;by_cases hz:k=0
  ·have g0:decide (0<k)=false:=by rw[YD];omega
   have LV:=zh (jH HU.o (show nH s.lines s.len k=true by rw[wI.o,yD hz];rfl));clear hz hc;go_wp2;go_quiet ((go_at_call 91;exact o8 (ub _)));go_wp2;go_roundw
   case rel=>exact⟨k+1,by omega,by go_num,LV,_,rfl⟩
   simp[intOf];omega
  have g0:decide (0<k)=true:=by rw[yP];omega
  have y1:=(cw.o.cell (p:=⟨b,off+(k-1),none⟩) hb).trans (hc (k-1) (by omega));have v1:IntKind.i64.wrap ((k:Int)-1)=(k:Int)-1:=yF _ (by omega);have i3:((k:Int)-1).toNat=k-1:=by omega
  have i4:(0:Int)≤(k:Int)-1:=by omega
  have i5:(k:Int)-1<(s.lines.length:Int):=by omega
  rw[yC hz,Bool.false_or] at wI;clear hz hc;by_cases c1:js s.lines k≤js s.lines (k-1)
  ·have d1:decide (js s.lines k≤js s.lines (k-1))=true:=yD c1;have cH:Y0 (mf s=false):=iM.o (by rw[wI.o,yC (by omega)];rfl);clear c1;go_wp2;go_quiet ((go_at_call 91;exact o8 (ub _)));go_wp2;go_ret;exact⟨Ze cH.o.symm,Zf (Zf cw.o _) _⟩
  have d1:decide (js s.lines k≤js s.lines (k-1))=false:=yC c1;have LV:=zh (jH HU.o (show nH s.lines s.len k=true by rw[wI.o,yD (by omega)];rfl));clear c1;go_wp2;go_quiet ((go_at_call 91;exact o8 (ub _)));go_wp2;go_roundw
  case rel=>exact⟨k+1,by omega,by go_num,LV,_,rfl⟩
  simp[intOf];omega
 obtain rfl:k=s.lines.length:=by omega
 have AU:Y0 (mf s=(fI s.items s.len&&dZ s.bricks)):=by unfold Y0;rw[HV.o,HU.o,Bool.true_and]
 have HBq:=zh (Zf cw.o q);have Ba:=zh (HD.o.drewN q);clear HV HU z4 z5 fa cw HD;generalize W1.drewN q=W2 at*;have hit:=HIt.o sN.o _ HBq.o;have z0:=Ba.o.cell 0;have z1:=Ba.o.cell 1;have z2:=Ba.o.cell 2;have z3:=Ba.o.cell 3;have z4:=Ba.o.cell 4;have z5:=Ba.o.cell 5;have z6:=Ba.o.cell 6;have z7:=Ba.o.cell 7;have z8:=Ba.o.cell 8;have z9:=Ba.o.cell 9;have fD:=Ba.o.cell 10;have dN:=Ba.o.cell 11;have fa:=Ba.o.cell 12
 simp only[aB,aD,aA] at z0 z1 z2 z3 z4 z5 z6 z7 z8 z9 fD dN fa;go_wp2_with (go_at_call 92;fail);go_at_call 92;refine hit.mono ?_;rintro e w3 ⟨rfl,bZ⟩;have cY:=zh (HBq.o.trans (bZ.mono HBq.o.size));have eJ:=zh (Ba.o.below bZ Ba.o.lt);clear hit bZ HBq Ba z0 z1 z2 z3 z4 z5 z6 z7 z8 z9 fD dN fa;have fa:=eJ.o.cell 12;simp only[aB,aD,aA] at fa;have hbr:=vwG.o _ cY.o;rcases yM (fI s.items s.len) with h1|h1
 rotate_left
 ·rw[h1] at AU⊢;go_wp2_with fail;go_ret;exact⟨Ze AU.o.symm,cY.o⟩
 rw[h1,Bool.true_and] at AU;rw[h1];go_wp2_with (go_at_call 93;refine hbr.mono ?_;rintro e w4 ⟨rfl,q4,rfl⟩);go_ret;exact⟨Ze AU.o.symm,Zf cY.o _⟩
