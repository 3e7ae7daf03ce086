/- Lemmas. -/
import Derived.Test.YtmmhehgajkaniaaGreatDoorZ29
namespace Go.Proofs.YtmmhehgajkaniaaGreatDoor
set_option maxRecDepth 100000
set_option maxHeartbeats 40000000
open Go.RowKit Go.Shelf
theorem aW (n lo hi:Int) (w:World):Calls Tryz.prog 21 #[.int .i64 n,.int .i64 lo,.int .i64 hi] w fun e w'=>e=.returned (.bool (Zw n lo hi))∧w=w':=by
 by_cases h1:lo≤n
 ·by_cases h2:n≤hi
  all_goals
   go_enter Tryz.func21,Tryz.ntmps21;go_wp2;go_ret;exact⟨Ze (by unfold Zw;symm;simp;omega),rfl⟩
 have Mv:decide (lo≤n)=false:=by simpa using h1
 go_enter Tryz.func21,Tryz.ntmps21;go_wp2;go_ret;exact⟨Ze (by unfold Zw;symm;simp;omega),rfl⟩
theorem oT {n lo hi:Int}:Zw n lo hi=true↔lo≤n∧n≤hi:=by unfold Zw;rw[decide_eq_true_iff]
theorem Q6 (x y:ItemT) (w:World) (hx:0≤x.pos∧x.pos≤1048576∧1≤x.width∧x.width≤1048576) (hy:0≤y.pos∧y.pos≤1048576∧1≤y.width∧y.width≤1048576) :
  Calls Tryz.prog 52 #[x.val,y.val] w fun e w'=>e=.returned (.bool (eS x y))∧Below w.heap.size w w':=by
 have HB:Y0 (Below w.heap.size w ((w.alloc (.cells #[.string x.name,.int .i64 x.pos,.int .i64 x.width,.int .i64 x.wt,.int .i64 x.hang,.int .i64 x.front,.int .i64 x.back] 52)).alloc (.cells #[.string y.name,.int .i64 y.pos,.int .i64 y.width,.int .i64 y.wt,.int .i64 y.hang,.int .i64 y.front,.int .i64 y.back] 52))):=((yB _ _).alloc (yA _) _).alloc (by simp) _;have HV:Y0 (eS x y=(decide (x.pos+x.width≤y.pos)||decide (y.pos+y.width≤x.pos))):=rfl
 obtain⟨xn,xp,xw,x3,x4,x5,x6⟩:=x;obtain⟨yn,yp,yw,y3,y4,y5,y6⟩:=y;simp only at*;have v1:IntKind.i64.wrap (xp+xw)=xp+xw:=yF _ (by omega);have v2:IntKind.i64.wrap (yp+yw)=yp+yw:=yF _ (by omega);clear hx hy;by_cases h1:xp+xw≤yp
 ·have d1:decide (xp+xw≤yp)=true:=yD h1;go_enter Tryz.func52,Tryz.ntmps52;go_wp2_with fail;go_ret;exact⟨Ze (by rw[HV.o,d1];rfl),HB.o⟩
 have d1:decide (xp+xw≤yp)=false:=yC h1;go_enter Tryz.func52,Tryz.ntmps52;go_wp2_with fail;go_ret;exact⟨Ze (by rw[HV.o,d1];rfl),HB.o⟩
theorem OT {x:ItemT} {len:Int}:(dw x.name&&(Zw x.width 1 1048576&&(Zw x.pos 0 (len-x.width)&&(Zw x.wt 0 1048576&&(Zw x.hang 0 1048576&&(Zw x.front 0 1048576&&Zw x.back 0 1048576))))))=(fY x&&dr x len):=by
 have e:Zw x.pos 0 (len-x.width)=(decide (0≤x.pos)&&decide (x.pos≤len-x.width)):=by unfold Zw;rw[Bool.decide_and]
 unfold fY dr;rw[e];generalize dw x.name=a0;generalize Zw x.width 1 1048576=a1;generalize decide (0≤x.pos)=a2;generalize decide (x.pos≤len-x.width)=a3;generalize Zw x.wt 0 1048576=a4;generalize Zw x.hang 0 1048576=a5;generalize Zw x.front 0 1048576=a6;generalize Zw x.back 0 1048576=a7;revert a0 a1 a2 a3 a4 a5 a6 a7
 decide
theorem Q7 (x:ItemT) (len:Int) (w:World) (hn:x.name.size≤maxLen) (hl:1000≤len∧len≤1048576) :
  Calls Tryz.prog 51 #[x.val,.int .i64 len] w fun e w'=>e=.returned (.bool (fY x&&dr x len))∧Below w.heap.size w w':=by
 have HB:Y0 (Below w.heap.size w (w.alloc (.cells #[.string x.name,.int .i64 x.pos,.int .i64 x.width,.int .i64 x.wt,.int .i64 x.hang,.int .i64 x.front,.int .i64 x.back] 52))):=(yB _ _).alloc (yA _) _;have iu:=fun W=>pu x.name hn W;rw[←OT];obtain⟨xn,xp,xw,x3,x4,x5,x6⟩:=x;simp only at*;have Hl:=zh hl;clear hn hl;generalize FC:(dw xn&&(Zw xw 1 1048576&&(Zw xp 0 (len-xw)&&(Zw x3 0 1048576&&(Zw x4 0 1048576&&(Zw x5 0 1048576&&Zw x6 0 1048576))))))=res
 have HR:=zh FC;clear FC;go_enter Tryz.func51,Tryz.ntmps51;go_wp2_with (go_at_call 20;fail);go_at_call 20;refine (iu _).mono ?_;rintro e w' ⟨rfl,rfl⟩;rcases yL (dw xn) with h0|h0;rotate_left
 ·rw[h0] at HR⊢;go_wp2_with fail;go_ret;exact⟨Ze HR.o,HB.o⟩
 rw[h0] at HR⊢;clear h0;go_wp2_with (go_at_call 21;fail);go_at_call 21;refine (aW _ _ _ _).mono ?_;rintro e w' ⟨rfl,rfl⟩;rcases yL (Zw xw 1 1048576) with h1|h1;rotate_left
 ·rw[h1] at HR⊢;go_wp2_with fail;go_ret;exact⟨Ze HR.o,HB.o⟩
 rw[h1] at HR⊢;have hwb:=Zh h1;have v1:IntKind.i64.wrap (len-xw)=len-xw:=yF _ (by have:=Hl.o;omega);clear hwb;clear h1;go_wp2_with (go_at_call 21;fail);go_at_call 21;refine (aW _ _ _ _).mono ?_;rintro e w' ⟨rfl,rfl⟩;rcases yL (Zw xp 0 (len-xw)) with h2|h2;rotate_left
 ·rw[h2] at HR⊢;go_wp2_with fail;go_ret;exact⟨Ze HR.o,HB.o⟩
 rw[h2] at HR⊢;clear h2;go_wp2_with (go_at_call 21;fail);go_at_call 21;refine (aW _ _ _ _).mono ?_;rintro e w' ⟨rfl,rfl⟩;rcases yL (Zw x3 0 1048576) with h3|h3;rotate_left
 ·rw[h3] at HR⊢;go_wp2_with fail;go_ret;exact⟨Ze HR.o,HB.o⟩
 rw[h3] at HR⊢;clear h3;go_wp2_with (go_at_call 21;fail);go_at_call 21;refine (aW _ _ _ _).mono ?_;rintro e w' ⟨rfl,rfl⟩;rcases yL (Zw x4 0 1048576) with h4|h4;rotate_left
 ·rw[h4] at HR⊢;go_wp2_with fail;go_ret;exact⟨Ze HR.o,HB.o⟩
 rw[h4] at HR⊢;clear h4;go_wp2_with (go_at_call 21;fail);go_at_call 21;refine (aW _ _ _ _).mono ?_;rintro e w' ⟨rfl,rfl⟩;rcases yL (Zw x5 0 1048576) with h5|h5;rotate_left
 ·rw[h5] at HR⊢;go_wp2_with fail;go_ret;exact⟨Ze HR.o,HB.o⟩
 rw[h5] at HR⊢;clear h5;go_wp2_with (go_at_call 21;fail);go_at_call 21;refine (aW _ _ _ _).mono ?_;rintro e w' ⟨rfl,rfl⟩;have MM:=zh HR.o;go_wp2_with fail;go_ret;exact⟨Ze HR.o,HB.o⟩
theorem Gk (L:List ByteArray):∀n,s7 L n=n ↔ ∀i,i < n→L.getD i default∉L.take i
 | 0=>by simp[s7]
 | n+1=>by
  have ih:=Gk L n;have ko:=CW L n;rw[s7];by_cases hm:L.getD n default∈L.take n
  ·rw[if_pos hm];constructor
   ·intro h;omega
   intro h;exact absurd hm (h n (by omega))
  rw[if_neg hm];constructor
  ·intro h i hi;rcases Nat.lt_succ_iff_lt_or_eq.1 hi with h2|rfl
   ·exact ih.1 (by omega) i h2
   exact hm
  intro h;rw[ih.2 fun i hi=>h i (by omega)]
theorem DY {α:Type} (f:α→ByteArray) (l:List α):iG (l.map f)=false ↔ ∀i j (hi:i<l.length) (hj:j<l.length),j<i→f l[j]≠f l[i]:=by
 unfold iG;rw[YD];have ko:=CW (l.map f) (l.map f).length;have h1:=Gk (l.map f) (l.map f).length;have hg:∀i (hi:i<l.length),(l.map f).getD i default=f l[i]:=fun i hi=>by
  rw[yN,YC,yM hi];rfl
 constructor
 ·intro h i j hi hj xP e;have h2:=h1.1 (by omega) i (by rw[yP];exact hi);rw[hg i hi] at h2;refine h2 ?_;rw[←e,List.mem_take_iff_getElem];exact⟨j,by rw[yP];omega,by rw[List.getElem_map]⟩
 intro h;have h2:=h1.2 fun i hi=>by
  rw[yP] at hi;rw[hg i hi];intro hm;rw[List.mem_take_iff_getElem] at hm;obtain⟨j,hj,e⟩:=hm;rw[yP] at hj;rw[List.getElem_map] at e;exact h i j hi (by omega) (by omega) e
 omega
def it0:ItemT:=⟨⟨#[]⟩,0,0,0,0,0,0⟩
def br0:BrickT:=⟨⟨#[]⟩,0,0⟩
def F5 (l:List ItemT) (i:Nat):ItemT:=l.getD i it0
def VI (l:List BrickT) (i:Nat):BrickT:=l.getD i br0
theorem gZ {l:List ItemT} {i:Nat} (h:i<l.length):F5 l i=l[i]:=by unfold F5;rw[List.getD_eq_getElem?_getD,List.getElem?_eq_getElem h];rfl
theorem ip {l:List BrickT} {i:Nat} (h:i<l.length):VI l i=l[i]:=by unfold VI;rw[List.getD_eq_getElem?_getD,List.getElem?_eq_getElem h];rfl
def rK (l:List ItemT) (k j:Nat):Bool:=!decide ((F5 l j).name=(F5 l k).name)&&eS (F5 l j) (F5 l k)
def fi (l:List ItemT) (len:Int) (k:Nat):Bool:=(fY (F5 l k)&&dr (F5 l k) len)&&gS (rK l k) k
def fC (l:List ItemT) (len:Int):Bool:=decide (l.length≤40)&&gS (fi l len) l.length
theorem uP (x y:ItemT):eS x y=eS y x:=by unfold eS;rw[Bool.or_comm]
theorem NU (l:List ItemT) (len:Int):fC l len=eO l len:=by
 have hR:fC l len=true↔l.length≤40∧∀k (hk:k<l.length),(fY l[k]=true∧dr l[k] len=true)∧∀j (hj:j<k),l[j].name≠l[k].name∧eS l[j] l[k]=true:=by
  unfold fC;rw[Bool.and_eq_true,yO,jZ];refine and_congr_right fun _=>?_;constructor
  ·intro h k hk
   have:=h k hk;unfold fi at this;rw[gZ hk,Bool.and_eq_true,Bool.and_eq_true,jZ] at this;refine⟨this.1,fun j hj=>?_⟩;have h2:=this.2 j hj;unfold rK at h2;rw[gZ hk,gZ (show j<l.length by omega),Bool.and_eq_true,Bool.not_eq_true',YD] at h2;exact h2
  intro h k hk;unfold fi;rw[gZ hk,Bool.and_eq_true,Bool.and_eq_true,jZ];refine⟨(h k hk).1,fun j hj=>?_⟩;unfold rK;rw[gZ hk,gZ (show j<l.length by omega),Bool.and_eq_true,Bool.not_eq_true',YD];exact (h k hk).2 j hj
 have hB:eO l len=true↔l.length≤40∧∀k (hk:k<l.length),(fY l[k]=true∧dr l[k] len=true)∧∀j (hj:j<k),l[j].name≠l[k].name∧eS l[j] l[k]=true:=by
  unfold eO tr;rw[Bool.and_eq_true,Bool.and_eq_true,yO,Bool.not_eq_true',DY,yO];refine and_congr_right fun _=>?_;constructor
  ·rintro⟨h1,h2⟩ k hk;have h3:=h2 k hk;rw[lR hk,Bool.and_eq_true,Bool.and_eq_true,Bool.not_eq_true',List.any_eq_false] at h3;refine⟨⟨h3.1,h3.2.1⟩,fun j hj=>⟨h1 k j hk (by omega) hj,?_⟩⟩
   have:=h3.2.2 l[j] (by rw[List.mem_take_iff_getElem];exact⟨j,by omega,rfl⟩);rw[uP];simpa using this
  intro h;refine⟨fun i j hi hj xP=>((h i hi).2 j xP).1,fun k hk=>?_⟩;rw[lR hk,Bool.and_eq_true,Bool.and_eq_true,Bool.not_eq_true',List.any_eq_false];refine⟨(h k hk).1.1,(h k hk).1.2,fun y hy=>?_⟩;rw[List.mem_take_iff_getElem] at hy;obtain⟨j,hj,rfl⟩:=hy;rw[uP,((h k hk).2 j (by omega)).2];simp
 rw[Bool.eq_iff_iff,hR,hB]
def uk (l:List BrickT) (k j:Nat):Bool:=!decide ((VI l j).name=(VI l k).name)
def eR (l:List BrickT) (k:Nat):Bool:=fH (VI l k)&&gS (uk l k) k
def dU (l:List BrickT):Bool:=decide (l.length≤8)&&(gS (eR l) l.length&&decide (gJ l l.length≤60))
theorem KL (l:List BrickT):dU l=dJ l:=by
 have h1:gS (eR l) l.length=(!iG (l.map BrickT.name)&&l.all fH):=by
  rw[Bool.eq_iff_iff,Bool.and_eq_true,Bool.not_eq_true',DY,jZ,List.all_eq_true];constructor
  ·intro h;have h2:∀k (hk:k<l.length),fH l[k]=true∧∀j (hj:j<k),l[j].name≠l[k].name:=fun k hk=>by
    have:=h k hk;unfold eR at this;rw[ip hk,Bool.and_eq_true,jZ] at this;refine⟨this.1,fun j hj=>?_⟩;have h3:=this.2 j hj;unfold uk at h3;rw[ip hk,ip (show j<l.length by omega),Bool.not_eq_true',YD] at h3;exact h3
   refine⟨fun i j hi hj xP=>(h2 i hi).2 j xP,fun x hx=>?_⟩;obtain⟨i,hi,rfl⟩:=List.getElem_of_mem hx;exact (h2 i hi).1
  rintro⟨h2,h3⟩ k hk;unfold eR;rw[ip hk,Bool.and_eq_true,jZ];refine⟨h3 _ (yV hk),fun j hj=>?_⟩;unfold uk;rw[ip hk,ip (show j<l.length by omega),Bool.not_eq_true',YD];exact h2 k j hk (by omega) hj
 unfold dU dJ;rw[h1,Bool.and_assoc]
def o8 (l:List Int) (len:Int) (i:Nat):Bool:=Zw (j7 l i) 0 len&&(decide (i=0)||decide (j7 l (i-1)<j7 l i))
theorem x8 {l:List Int} {n:Nat} (h:iB l n=true):∀i j,i≤j→j<n→j7 l i≤j7 l j:=by
  unfold iB at h;rw[yO] at h;intro i j hij
  induction j with
  | zero=>
   intro _; obtain rfl:i=0 := by omega
   exact Int.le_refl _
  | succ j ih=>
    intro hj;rcases Nat.lt_or_ge j i with h1|h1
    · obtain rfl:i=j+1:=by omega
      exact Int.le_refl _
    have h2:=ih h1 (by omega);have h3:=h (j+1) hj (by omega);rw[Nat.add_sub_cancel] at h3;omega
theorem NS (l:List Int) (len:Int):(Zw (l.length:Int) 2 10&&gS (o8 l len) l.length)=fw l len:=by
 rw[Bool.eq_iff_iff];unfold fw;rw[Bool.and_eq_true,Bool.and_eq_true,Bool.and_eq_true,Bool.and_eq_true];refine and_congr_right fun h0=>?_;have h0':=Zh h0;rw[jZ,Bool.not_eq_true',Bool.not_eq_true',YD,YD];constructor
 ·intro h;have h1:∀i,i<l.length→(0≤j7 l i∧j7 l i≤len)∧(i=0∨j7 l (i-1)<j7 l i):=fun i hi=>by
   have:=h i hi;unfold o8 at this;rw[Bool.and_eq_true,Bool.or_eq_true,yO,yO,oT] at this;exact this
  refine⟨?_,?_,?_⟩
  ·have:=(h1 0 (by omega)).1;omega
  ·have:=(h1 (l.length-1) (by omega)).1;omega
  unfold iB;rw[yO];intro i hi h2;rcases (h1 i hi).2 with h3|h3
  ·omega
  exact h3
 rintro⟨h1,h2,h3⟩ i hi;have m1:=x8 h3 0 i (by omega) hi;have m2:=x8 h3 i (l.length-1) (by omega) (by omega);unfold o8;rw[Bool.and_eq_true,Bool.or_eq_true,yO,yO,oT];refine⟨⟨by omega,by omega⟩,?_⟩;by_cases hz:i=0
 ·exact .inl hz
 unfold iB at h3;rw[yO] at h3;exact .inr (h3 i hi (by omega))
def mE (s:SetT):Bool :=
 dw s.name&&(Zw s.depth 0 1048576&&(Zw s.low 0 s.high&&(Zw s.high 0 1048576&&(Zw s.len 1000 1048576&&((s.len%1000==0)&&(Zw (s.lines.length:Int) 2 10&&(Zw s.pipe 0 1048576&&(Zw s.arbor 0 1048576&&(Zw s.purch 1 2&&(Zw s.most 1 67108864&&(Zw s.brake 0 67108864&&(gS (o8 s.lines s.len) s.lines.length&&(fC s.items s.len&&dU s.bricks)))))))))))))
theorem XF (s:SetT):mE s=cD s:=by
 unfold mE cD;rw[NU,KL,←NS];have e1:Zw s.low 0 s.high=(decide (0≤s.low)&&decide (s.low≤s.high)):=by unfold Zw;rw[Bool.decide_and]
 rw[e1];have e2:(decide (0≤s.low)&&(decide (s.low≤s.high)&&Zw s.high 0 1048576))=(decide (0≤s.low)&&(decide (s.low≤s.high)&&decide (s.high≤1048576))):=by
  rw[Bool.eq_iff_iff];simp only[Bool.and_eq_true,decide_eq_true_eq,oT];omega
 generalize dw s.name=a0;generalize Zw s.depth 0 1048576=a1;generalize decide (0≤s.low)=a2 at*;generalize decide (s.low≤s.high)=a3 at*;generalize Zw s.high 0 1048576=a4 at*;generalize decide (s.high≤1048576)=a5 at*;generalize (Zw s.len 1000 1048576)=a6;generalize (s.len%1000==0)=a7;generalize Zw (s.lines.length:Int) 2 10=a8;generalize gS (o8 s.lines s.len) s.lines.length=a9;generalize Zw s.pipe 0 1048576=b0
 generalize Zw s.arbor 0 1048576=b1;generalize Zw s.purch 1 2=b2;generalize Zw s.most 1 67108864=b3;generalize Zw s.brake 0 67108864=b4;generalize eO s.items s.len=b5;generalize dJ s.bricks=b6;have e3:∀x,(a2&&(a3&&(a4&&x)))=(a2&&(a3&&(a5&&x))):=fun x=>by
  have:=congrArg (fun y=>y&&x) e2;simpa only[Bool.and_assoc] using this
 simp only[Bool.and_assoc];rw[e3];cases a0 <;> cases a1 <;> cases a2 <;> cases a3 <;> cases a5 <;> cases a6 <;> cases a7 <;> cases a8 <;> simp only[Bool.false_and,Bool.and_false,Bool.true_and];rw[Bool.and_left_comm a9 b0,Bool.and_left_comm a9 b1,Bool.and_left_comm a9 b2,Bool.and_left_comm a9 b3,Bool.and_left_comm a9 b4]
theorem tq {l:List ItemT} {len:Int} {k:Nat} (hk:k<l.length) (h:fi l len k=false):fC l len=false:=by
 unfold fC;rw[rq hk h,Bool.and_false]
theorem F4 {l:List ItemT} {len:Int} {k:Nat} (hk:k<l.length) (h:(fY l[k]&&dr l[k] len)=false):fi l len k=false:=by
 unfold fi;rw[gZ hk,h,Bool.false_and]
theorem uo {l:List ItemT} {len:Int} {k j:Nat} (hj:j<k) (h:rK l k j=false):fi l len k=false:=by
 unfold fi;rw[rq hj h,Bool.and_false]
theorem uq {l:List ItemT} {len:Int} {k:Nat} (hk:k<l.length) (h:(fY l[k]&&dr l[k] len)=true) (hl:len≤1048576):BO l[k]:=by
 rw[Bool.and_eq_true] at h;exact qE h.2 hl
theorem TD {l:List ItemT} {k j:Nat} (hk:k<l.length) (hj:j<l.length):rK l k j=(!decide (l[j].name=l[k].name)&&eS l[j] l[k]):=by
 unfold rK;rw[gZ hk,gZ hj]
theorem Nb {l:List ItemT} {len:Int} {k j:Nat} (h:gS (fi l len) k=true) (hj:j<k) (hk:k≤l.length) (hl:len≤1048576):BO (l[j]'(by omega)):=by
 have:=Ll h hj;unfold fi at this;rw[gZ (show j<l.length by omega),Bool.and_eq_true] at this;exact uq (by omega) this.1 hl
theorem Q0 (v:Value) (s:SetT) (w:World) (hv:SetAt w w.heap.size v s) (hn:∀x∈s.items,x.name.size≤maxLen) (cI:1000≤s.len∧s.len≤1048576) :
  Calls Tryz.prog 22 #[v] w fun e w'=>e=.returned (.bool (fC s.items s.len))∧Below w.heap.size w w':=by
 obtain⟨Al,cl,Ai,ci,Ab,cb,rfl,hL,hI,hB⟩:=hv;obtain⟨_,_,e,Py,hi2,U6⟩:=hI.open_;injection e with e1 _ e2;subst e1 e2;have HI:=zh U6;have HN:=zh hn;have Dv:=zh cI;have HD:=zh (Blk.new w 26 (zA s Al cl Ai ci Ab cb));have cP:=zh ((yB _ w).alloc (yA _) (.cells (zA s Al cl Ai ci Ab cb) 26));unfold maxLen at hi2;unfold fc;clear hL hI hB U6 hn cI;by_cases c0:40<(s.items.length:Int)
 ·have d0:decide (40<(s.items.length:Int))=true:=yD c0;have HV:Y0 (fC s.items s.len=false):=by unfold Y0 fC;rw[decide_eq_false (show ¬s.items.length≤40 by omega)];rfl
  go_enter Tryz.func22,Tryz.ntmps22;go_wp2;go_ret;exact⟨Ze HV.o.symm,cP.o⟩
 have d0:decide (40<(s.items.length:Int))=false:=yC c0;have HV:Y0 (fC s.items s.len=gS (fi s.items s.len) s.items.length):=by unfold Y0 fC;rw[decide_eq_true (show s.items.length≤40 by omega)];rfl
 go_enter Tryz.func22,Tryz.ntmps22;go_wp2;generalize w.alloc (.cells (zA s Al cl Ai ci Ab cb) 26)=W1 at*;go_loopw [3] (fun x wr=>∃k:Nat,k≤s.items.length∧x=.int .i64 k∧Y0 (gS (fi s.items s.len) k=true)∧Below W1.heap.size W1 wr) (fun x _=>s.items.length-(intOf x).toNat)
 case atStart=>exact⟨0,yI _,rfl,lJ _,yB _ _⟩
 obtain⟨k,hk,rfl,HU,ai⟩:=hrel;have HDr:=zh (HD.o.below ai HD.o.lt);have Mp:=cP.o.trans (ai.mono cP.o.size);have fS:=HDr.o.cell 11;have z4:=HDr.o.cell 4;simp only[aG,aH,aD] at fS z4;by_cases ay:k<s.items.length
 ·obtain⟨b,off,rfl,hb,hc⟩:=HI.o k ay;have HC:=zh hc;clear hc;have i1:(0:Int)≤(k:Int):=yE _;have i2:(k:Int)<(s.items.length:Int):=by omega
  go_wp2;have hc:=HC.o;have y0:=YL ((Mp.cell (p:=⟨b,off+k*7,none⟩) hb).trans (hc k ay).1);have y1:=YL ((Mp.cell (p:=⟨b,off+k*7+1,none⟩) hb).trans (hc k ay).2.1);have y2:=YL ((Mp.cell (p:=⟨b,off+k*7+2,none⟩) hb).trans (hc k ay).2.2.1);have y3:=YL ((Mp.cell (p:=⟨b,off+k*7+3,none⟩) hb).trans (hc k ay).2.2.2.1);have y4:=YL ((Mp.cell (p:=⟨b,off+k*7+4,none⟩) hb).trans (hc k ay).2.2.2.2.1);have y5:=YL ((Mp.cell (p:=⟨b,off+k*7+5,none⟩) hb).trans (hc k ay).2.2.2.2.2.1)
  have y6:=YL ((Mp.cell (p:=⟨b,off+k*7+6,none⟩) hb).trans (hc k ay).2.2.2.2.2.2);have x4:=YL z4;have x11:=YL fS;have vxA:=fun (w':World) (_:Below wr.heap.size wr w')=>Q7 s.items[k] s.len w' (HN.o _ (yV ay)) Dv.o;have Kt:=HeldB.call vxA;clear vxA;clear hc;rcases yL (fY s.items[k]&&dr s.items[k] s.len) with h1|h1;rotate_left
  ·have ck:Y0 (fC s.items s.len=false):=tq ay (F4 ay h1);rw[h1] at Kt;clear h1;refine bB (by kernel_rfl) (by kernel_rfl) ?_
   repeat (go_big_quiet_step ((go_at_call 51;exact Kt _)))
   refine YE ?_;rintro w5 ⟨⟨w6,aR⟩,rfl⟩;go_wp2_with fail;go_ret;exact⟨Ze ck.o.symm,Mp.trans (aR.mono Mp.size)⟩
  have HP:=zh (uq ay h1 Dv.o.2);have vwZ:=zh h1;rw[h1] at Kt;clear h1;refine bB (by kernel_rfl) (by kernel_rfl) ?_
  repeat (go_big_quiet_step ((go_at_call 51;exact Kt _)))
  refine YE ?_;rintro w5 ⟨⟨w6,aR⟩,rfl⟩;clear y0 y1 y2 y3 y4 y5 y6 x4 x11 Kt z4 fS;have vxw:=Mp.trans (aR.mono Mp.size);have pK:=zh (HDr.o.below aR HDr.o.lt);have Kq:=ai.trans (aR.mono ai.size);clear aR;go_wp2_with fail;go_loopw [4] (fun x wi=>∃j:Nat,j≤k∧x=.int .i64 j∧Y0 (gS (rK s.items k) j=true)∧Below w5.heap.size w5 wi) (fun x _=>k-(intOf x).toNat)
  case atStart=>exact⟨0,yI _,rfl,lJ _,yB _ _⟩
  obtain⟨j,hj,rfl,OY,nK⟩:=hrel;have HDi:=zh (pK.o.below nK pK.o.lt);have nI:=vxw.trans (nK.mono vxw.size);have fS:=HDi.o.cell 11;simp only[aG,aH,aD] at fS;by_cases Hh:j<k
  ·have re:j<s.items.length:=by omega
   have j1:(0:Int)≤(j:Int):=yE _;have j2:(j:Int)<(s.items.length:Int):=by omega
   go_wp2;have hc:=HC.o;have y0:=YL ((nI.cell (p:=⟨b,off+k*7,none⟩) hb).trans (hc k ay).1);have y1:=YL ((nI.cell (p:=⟨b,off+k*7+1,none⟩) hb).trans (hc k ay).2.1);have y2:=YL ((nI.cell (p:=⟨b,off+k*7+2,none⟩) hb).trans (hc k ay).2.2.1);have y3:=YL ((nI.cell (p:=⟨b,off+k*7+3,none⟩) hb).trans (hc k ay).2.2.2.1);have y4:=YL ((nI.cell (p:=⟨b,off+k*7+4,none⟩) hb).trans (hc k ay).2.2.2.2.1);have y5:=YL ((nI.cell (p:=⟨b,off+k*7+5,none⟩) hb).trans (hc k ay).2.2.2.2.2.1)
   have y6:=YL ((nI.cell (p:=⟨b,off+k*7+6,none⟩) hb).trans (hc k ay).2.2.2.2.2.2);have u0:=YL ((nI.cell (p:=⟨b,off+j*7,none⟩) hb).trans (hc j re).1);have u1:=YL ((nI.cell (p:=⟨b,off+j*7+1,none⟩) hb).trans (hc j re).2.1);have u2:=YL ((nI.cell (p:=⟨b,off+j*7+2,none⟩) hb).trans (hc j re).2.2.1);have u3:=YL ((nI.cell (p:=⟨b,off+j*7+3,none⟩) hb).trans (hc j re).2.2.2.1);have u4:=YL ((nI.cell (p:=⟨b,off+j*7+4,none⟩) hb).trans (hc j re).2.2.2.2.1)
   have u5:=YL ((nI.cell (p:=⟨b,off+j*7+5,none⟩) hb).trans (hc j re).2.2.2.2.2.1);have u6:=YL ((nI.cell (p:=⟨b,off+j*7+6,none⟩) hb).trans (hc j re).2.2.2.2.2.2);have x11:=YL fS;have vxz:=fun (w':World) (_:Below wr.heap.size wr w')=>Q6 s.items[j] s.items[k] w' (Nb HU.o Hh hk Dv.o.2) HP.o;have CH:=HeldB.call vxz;clear vxz;have HPq:=zh (TD ay re);clear hc;by_cases hq:s.items[j].name=s.items[k].name
   ·have hqb:(s.items[j].name.toList==s.items[k].name.toList)=true:=by rw[pi];simpa using hq
    have ck:Y0 (fC s.items s.len=false):=tq ay (uo Hh (by rw[HPq.o,yD hq];rfl));clear hq CH;refine bB (by kernel_rfl) (by kernel_rfl) ?_
    repeat (go_big_quiet_step (fail))
    refine YE ?_;rintro w7 ⟨⟨w8,lF⟩,rfl⟩;go_wp2_with fail;go_ret;exact⟨Ze ck.o.symm,nI.trans (lF.mono nI.size)⟩
   have hqb:(s.items[j].name.toList==s.items[k].name.toList)=false:=by rw[pi];simpa using hq
   have vxO:Y0 (rK s.items k j=eS s.items[j] s.items[k]):=by unfold Y0;rw[HPq.o,decide_eq_false hq];rfl
   clear hq;rcases yL (eS s.items[j] s.items[k]) with h2|h2;rotate_left
   ·have ck:Y0 (fC s.items s.len=false):=tq ay (uo Hh (by rw[vxO.o,h2]));rw[h2] at CH;clear h2;refine bB (by kernel_rfl) (by kernel_rfl) ?_
    repeat (go_big_quiet_step ((go_at_call 52;exact CH _)))
    refine YE ?_;rintro w7 ⟨⟨w8,lF⟩,rfl⟩;go_wp2_with fail;go_ret;exact⟨Ze ck.o.symm,nI.trans (lF.mono nI.size)⟩
   have HU3:=zh (jQ OY.o (show rK s.items k j=true by rw[vxO.o,h2]));rw[h2] at CH;clear h2;refine bB (by kernel_rfl) (by kernel_rfl) ?_
   repeat (go_big_quiet_step ((go_at_call 52;exact CH _)))
   refine YE ?_;rintro w7 ⟨⟨w8,lF⟩,rfl⟩;clear y0 y1 y2 y3 y4 y5 y6 u0 u1 u2 u3 u4 u5 u6 x11 CH;go_wp2_with fail;go_roundw
   case rel=>exact⟨j+1,by omega,by go_num,HU3,nK.trans (lF.mono nK.size)⟩
   simp[intOf];omega
  obtain rfl:j=k:=by omega
  have HU4:=zh (jQ HU.o (show fi s.items s.len j=true by unfold fi;rw[gZ ay,vwZ.o,OY.o];rfl));go_wp2_with fail;go_roundw
  case rel=>exact⟨j+1,by omega,by go_num,HU4,Kq.trans (nK.mono Kq.size)⟩
  simp[intOf];omega
 obtain rfl:k=s.items.length:=by omega
 go_wp2;go_ret;exact⟨Ze (by rw[HV.o];exact HU.o.symm),Mp⟩
theorem Gz {l:List BrickT} {k:Nat} (hk:k<l.length) (h:fH l[k]=false):eR l k=false:=by
 unfold eR;rw[ip hk,h,Bool.false_and]
theorem Gy {l:List BrickT} {k j:Nat} (hj:j<k) (h:uk l k j=false):eR l k=false:=by
 unfold eR;rw[rq hj h,Bool.and_false]
theorem TL {l:List BrickT} {k j:Nat} (hk:k<l.length) (hj:j<l.length):uk l k j = !decide (l[j].name=l[k].name):=by
 unfold uk;rw[ip hk,ip hj]
theorem zj {l:List BrickT} {k:Nat} (hk:k<l.length) (h:eR l k=false):dU l=false:=by
 unfold dU;rw[rq hk h,Bool.false_and,Bool.and_false]
theorem KM {l:List BrickT} {k:Nat} (h:gS (eR l) k=true) (hk:k≤l.length):0≤gJ l k∧gJ l k≤60*k:=by
 refine VF ?_ hk;rw[List.all_eq_true];intro x hx;rw[List.mem_take_iff_getElem] at hx;obtain⟨i,hi,rfl⟩:=hx
 have:=Ll h (show i<k by omega);unfold eR at this;rw[ip (show i<l.length by omega),Bool.and_eq_true] at this;exact this.1
theorem Nz (v:Value) (l:List BrickT) (B:Nat) (w:World) (hl:BricksAt w B v l) (hn:∀x∈l,x.name.size≤maxLen) :
  Calls Tryz.prog 23 #[v] w fun e w'=>e=.returned (.bool (dU l))∧∃q,w.drewN q=w':=by
 obtain⟨A,c,rfl,fU,cM,aj⟩:=hl.open_;unfold maxLen at cM;have HC:=zh aj;have HN:=zh hn;clear hl aj hn;by_cases c0:8<(l.length:Int)
 ·have d0:decide (8<(l.length:Int))=true:=yD c0;have HV:Y0 (dU l=false):=by unfold Y0 dU;rw[decide_eq_false (show ¬l.length≤8 by omega)];rfl
  go_enter Tryz.func23,Tryz.ntmps23;go_wp2;go_ret;exact⟨Ze HV.o.symm,0,rfl⟩
 have d0:decide (8<(l.length:Int))=false:=yC c0;have HV:Y0 (dU l=(gS (eR l) l.length&&decide (gJ l l.length≤60))):=by unfold Y0 dU;rw[decide_eq_true (show l.length≤8 by omega)];rfl
 have h8:=zh (show l.length≤8 by omega);go_enter Tryz.func23,Tryz.ntmps23;go_wp2;go_loopw [4,3] (fun x m wr=>∃k:Nat,k≤l.length∧x=.int .i64 k∧m=.int .i64 (gJ l k)∧Y0 (gS (eR l) k=true)∧∃q,wr=w.drewN q) (fun x _ _=>l.length-(intOf x).toNat)
 case atStart=>exact⟨0,yI _,rfl,rfl,lJ _,0,rfl⟩
 obtain⟨k,hk,rfl,rfl,HU,q,rfl⟩:=hrel;by_cases ay:k<l.length
 ·obtain⟨b,off,rfl,hb,hc⟩:=HC.o k ay;have PP:=zh hc;have y0:=(hc k ay).1;have y1:=(hc k ay).2.1;have y2:=(hc k ay).2.2;have iu:=fun W=>pu l[k].name (HN.o _ (yV ay)) W;have Dy:Y0 (fH l[k]=(dw l[k].name&&(Zw l[k].wt 1 1048576&&Zw l[k].cnt 0 60))):=rfl;have gM:=zh (fun h:fH l[k]=false=>zj ay (Gz ay h));have HCn:=zh (qQ l k ay);have i1:(0:Int)≤(k:Int):=yE _;have i2:(k:Int)<(l.length:Int):=by omega
  clear hc;go_wp2_with (go_at_call 20;fail);go_at_call 20;refine (iu _).mono ?_;rintro e w' ⟨rfl,rfl⟩;rcases yL (dw l[k].name) with h0|h0;rotate_left
  ·have ck:Y0 (dU l=false):=gM.o (by rw[Dy.o,h0];rfl);rw[h0];go_wp2_with fail;go_ret;exact⟨Ze ck.o.symm,_,rfl⟩
  rw[h0] at Dy⊢;clear h0;go_wp2_with (go_at_call 21;fail);go_at_call 21;refine (aW _ _ _ _).mono ?_;rintro e w' ⟨rfl,rfl⟩;rcases yL (Zw l[k].wt 1 1048576) with h1|h1;rotate_left
  ·have ck:Y0 (dU l=false):=gM.o (by rw[Dy.o,h1];rfl);rw[h1];go_wp2_with fail;go_ret;exact⟨Ze ck.o.symm,_,rfl⟩
  rw[h1] at Dy⊢;clear h1;go_wp2_with (go_at_call 21;fail);go_at_call 21;refine (aW _ _ _ _).mono ?_;rintro e w' ⟨rfl,rfl⟩;rcases yL (Zw l[k].cnt 0 60) with h2|h2;rotate_left
  ·have ck:Y0 (dU l=false):=gM.o (by rw[Dy.o,h2];rfl);rw[h2];go_wp2_with fail;go_ret;exact⟨Ze ck.o.symm,_,rfl⟩
  rw[h2] at Dy⊢;have hcb:=Zh h2;have sQ:=KM HU.o hk;have v1:IntKind.i64.wrap (gJ l k+l[k].cnt)=gJ l k+l[k].cnt:=yF _ (by have:=h8.o;omega);have vwZ:Y0 (fH l[k]=true):=by unfold Y0;rw[Dy.o];rfl
  clear h2 hcb sQ Dy;go_wp2_with fail;clear v1 y0 y1 y2;generalize hQ:q=q0;clear hQ;go_loopw [5] (fun x wr=>∃j:Nat,j≤k∧x=.int .i64 j∧Y0 (gS (uk l k) j=true)∧∃q,wr=w.drewN q) (fun x _=>k-(intOf x).toNat)
  case atStart=>exact⟨0,yI _,rfl,lJ _,_,rfl⟩
  obtain⟨j,hj,rfl,OY,q1,rfl⟩:=hrel;by_cases Hh:j<k
  ·have re:j<l.length:=by omega
   have y0:=(PP.o k ay).1;have u0:=(PP.o j re).1;have j1:(0:Int)≤(j:Int):=yE _;have j2:(j:Int)<(l.length:Int):=by omega
   have HPq:=zh (TL ay re);by_cases hq:l[j].name=l[k].name
   ·have hqb:(l[j].name.toList==l[k].name.toList)=true:=by rw[pi];simpa using hq
    have ck:Y0 (dU l=false):=zj ay (Gy Hh (by rw[HPq.o,yD hq];rfl));clear hq;go_wp2;go_quiet (fail);go_wp2;go_ret;exact⟨Ze ck.o.symm,q2⟩
   have hqb:(l[j].name.toList==l[k].name.toList)=false:=by rw[pi];simpa using hq
   have HU3:=zh (jQ OY.o (show uk l k j=true by rw[HPq.o,yC hq];rfl));clear hq;go_wp2;go_quiet (fail);go_wp2;go_roundw
   case rel=>exact⟨j+1,by omega,by go_num,HU3,_,rfl⟩
   simp[intOf];omega
  obtain rfl:j=k:=by omega
  have HU4:=zh (jQ HU.o (show eR l j=true by unfold eR;rw[ip ay,vwZ.o,OY.o];rfl));go_wp2;go_roundw
  case rel=>exact⟨j+1,by omega,by go_num,by rw[HCn.o],HU4,_,rfl⟩
  simp[intOf];omega
 obtain rfl:k=l.length:=by omega
 have ck:Y0 (dU l=decide (gJ l l.length≤60)):=by unfold Y0;rw[HV.o,HU.o];rfl
 go_wp2;go_ret;exact⟨Ze ck.o.symm,_,rfl⟩
theorem Uc {w:World} {B:Nat} {A:Option Addr} {n c:Nat} {l:List Int} (h:bg w B (.slice A n c) l):n=l.length∧n≤c∧c≤maxLen∧∀k (_:k<l.length),∃b off,A=some ⟨b,off,none⟩∧b<B∧∀j (_:j<l.length),w.cell? ⟨b,off+j,none⟩=some (.int .i64 (j7 l j)):=by
 obtain⟨A',c',e,h1,h2,h3⟩:=h.open_;injection e with e1 e2 e3;subst e1 e2 e3;refine⟨rfl,h1,h2,fun k hk=>?_⟩;obtain⟨b,off,e,hb,hc⟩:=h3 k hk;refine⟨b,off,e,hb,fun j hj=>?_⟩;rw[hc j hj];unfold j7;rw[yN,yM hj];rfl
theorem qk (v:Value) (s:SetT) (w:World) (hv:SetAt w w.heap.size v s) (hn:SetNames s) :
  Calls Tryz.prog 7 #[v] w fun e w'=>e=.returned (.bool (cD s))∧Below w.heap.size w w':=by
 rw[←XF];have iu:=fun W=>pu s.name hn.name W;have vxM:=zh fun W (hb:Below w.heap.size w W)=>hv.grow hb;have HIt:=zh fun cI W (hb:Below w.heap.size w W)=>Q0 v s W (vxM.o W hb) hn.items cI;have HBr:=zh fun u (hu:BricksAt w w.heap.size u s.bricks) W (hb:Below w.heap.size w W)=>Nz u s.bricks _ W (hu.below hb (yA _)) hn.bricks;obtain⟨Al,cl,Ai,ci,Ab,cb,rfl,hL,hI,hB⟩:=hv;have vvH:=zh (HBr.o _ hB);obtain⟨-,rV,sO,hlc⟩:=Uc hL
 unfold maxLen at sO;have zQ:=zh hlc;have HV:Y0 (mE s=(dw s.name&&(Zw s.depth 0 1048576&&(Zw s.low 0 s.high&&(Zw s.high 0 1048576&&(Zw s.len 1000 1048576&&((s.len%1000==0)&&(Zw (s.lines.length:Int) 2 10&&(Zw s.pipe 0 1048576&&(Zw s.arbor 0 1048576&&(Zw s.purch 1 2&&(Zw s.most 1 67108864&&(Zw s.brake 0 67108864&&(gS (o8 s.lines s.len) s.lines.length&&(fC s.items s.len&&dU s.bricks))))))))))))))):=rfl
 have HD:=zh (Blk.new w 26 (zA s Al cl Ai ci Ab cb));have cP:=zh ((yB _ w).alloc (yA _) (.cells (zA s Al cl Ai ci Ab cb) 26));clear hL hI hB hn HBr vxM hlc;unfold fc at*;go_enter Tryz.func7,Tryz.ntmps7;go_wp2_with (go_at_call 20;fail);generalize w.alloc (.cells (zA s Al cl Ai ci Ab cb) 26)=W1 at*;have z0:=HD.o.cell 0;have z1:=HD.o.cell 1;have z2:=HD.o.cell 2;have z3:=HD.o.cell 3;have z4:=HD.o.cell 4;have z5:=HD.o.cell 5;have z6:=HD.o.cell 6;have z7:=HD.o.cell 7;have z8:=HD.o.cell 8;have z9:=HD.o.cell 9;have j8:=HD.o.cell 10;have fS:=HD.o.cell 11;have iT:=HD.o.cell 12
 simp only[aG,aH,aD] at z0 z1 z2 z3 z4 z5 z6 z7 z8 z9 j8 fS iT;go_at_call 20;refine (iu _).mono ?_;rintro e w' ⟨rfl,rfl⟩;rcases yL (dw s.name) with h0|h0;rotate_left
 ·have ck:Y0 (mE s=false):=by unfold Y0;rw[HV.o,h0];rfl
  rw[h0];go_wp2_with fail;go_ret;exact⟨Ze ck.o.symm,cP.o⟩
 rw[h0,Bool.true_and] at HV;rw[h0];clear h0;go_wp2_with (go_at_call 21;fail);go_at_call 21;refine (aW _ _ _ _).mono ?_;rintro e w' ⟨rfl,rfl⟩;rcases yL (Zw s.depth 0 1048576) with h1|h1;rotate_left
 ·have ck:Y0 (mE s=false):=by unfold Y0;rw[HV.o,h1];rfl
  rw[h1];go_wp2_with fail;go_ret;exact⟨Ze ck.o.symm,cP.o⟩
 rw[h1,Bool.true_and] at HV;rw[h1];clear h1;go_wp2_with (go_at_call 21;fail);go_at_call 21;refine (aW _ _ _ _).mono ?_;rintro e w' ⟨rfl,rfl⟩;rcases yL (Zw s.low 0 s.high) with h2|h2;rotate_left
 ·have ck:Y0 (mE s=false):=by unfold Y0;rw[HV.o,h2];rfl
  rw[h2];go_wp2_with fail;go_ret;exact⟨Ze ck.o.symm,cP.o⟩
 rw[h2,Bool.true_and] at HV;rw[h2];clear h2;go_wp2_with (go_at_call 21;fail);go_at_call 21;refine (aW _ _ _ _).mono ?_;rintro e w' ⟨rfl,rfl⟩;rcases yL (Zw s.high 0 1048576) with h3|h3;rotate_left
 ·have ck:Y0 (mE s=false):=by unfold Y0;rw[HV.o,h3];rfl
  rw[h3];go_wp2_with fail;go_ret;exact⟨Ze ck.o.symm,cP.o⟩
 rw[h3,Bool.true_and] at HV;rw[h3];clear h3;go_wp2_with (go_at_call 21;fail);go_at_call 21;refine (aW _ _ _ _).mono ?_;rintro e w' ⟨rfl,rfl⟩;rcases yL (Zw s.len 1000 1048576) with h4|h4;rotate_left
 ·have ck:Y0 (mE s=false):=by unfold Y0;rw[HV.o,h4];rfl
  rw[h4];go_wp2_with fail;go_ret;exact⟨Ze ck.o.symm,cP.o⟩
 rw[h4,Bool.true_and] at HV;rw[h4];have cI:=Zh h4;have Dv:=zh cI;have htm:s.len.tmod 1000=s.len%1000:=Int.tmod_eq_emod_of_nonneg (by omega);have vr:IntKind.i64.wrap (s.len%1000)=s.len%1000:=yF _ (by omega);clear cI;clear h4;rcases yL ((s.len%1000==0)) with h5|h5;rotate_left
 ·have ck:Y0 (mE s=false):=by unfold Y0;rw[HV.o,h5];rfl
  have dz:(s.len%1000 != 0)=true:=by unfold bne;rw[h5];rfl
  clear h5;go_wp2_with fail;go_ret;exact⟨Ze ck.o.symm,cP.o⟩
 have dz:(s.len%1000 != 0)=false:=by unfold bne;rw[h5];rfl
 rw[h5,Bool.true_and] at HV;clear h5;go_wp2_with (go_at_call 21;fail);go_at_call 21;refine (aW _ _ _ _).mono ?_;rintro e w' ⟨rfl,rfl⟩;rcases yL (Zw (s.lines.length:Int) 2 10) with h6|h6;rotate_left
 ·have ck:Y0 (mE s=false):=by unfold Y0;rw[HV.o,h6];rfl
  rw[h6];go_wp2_with fail;go_ret;exact⟨Ze ck.o.symm,cP.o⟩
 rw[h6,Bool.true_and] at HV;rw[h6];clear h6;go_wp2_with (go_at_call 21;fail);go_at_call 21;refine (aW _ _ _ _).mono ?_;rintro e w' ⟨rfl,rfl⟩;rcases yL (Zw s.pipe 0 1048576) with h7|h7;rotate_left
 ·have ck:Y0 (mE s=false):=by unfold Y0;rw[HV.o,h7];rfl
  rw[h7];go_wp2_with fail;go_ret;exact⟨Ze ck.o.symm,cP.o⟩
 rw[h7,Bool.true_and] at HV;rw[h7];clear h7;go_wp2_with (go_at_call 21;fail);go_at_call 21;refine (aW _ _ _ _).mono ?_;rintro e w' ⟨rfl,rfl⟩;rcases yL (Zw s.arbor 0 1048576) with h8|h8;rotate_left
 ·have ck:Y0 (mE s=false):=by unfold Y0;rw[HV.o,h8];rfl
  rw[h8];go_wp2_with fail;go_ret;exact⟨Ze ck.o.symm,cP.o⟩
 rw[h8,Bool.true_and] at HV;rw[h8];clear h8;go_wp2_with (go_at_call 21;fail);go_at_call 21;refine (aW _ _ _ _).mono ?_;rintro e w' ⟨rfl,rfl⟩;rcases yL (Zw s.purch 1 2) with h9|h9;rotate_left
 ·have ck:Y0 (mE s=false):=by unfold Y0;rw[HV.o,h9];rfl
  rw[h9];go_wp2_with fail;go_ret;exact⟨Ze ck.o.symm,cP.o⟩
 rw[h9,Bool.true_and] at HV;rw[h9];clear h9;go_wp2_with (go_at_call 21;fail);go_at_call 21;refine (aW _ _ _ _).mono ?_;rintro e w' ⟨rfl,rfl⟩;rcases yL (Zw s.most 1 67108864) with DI|DI;rotate_left
 ·have ck:Y0 (mE s=false):=by unfold Y0;rw[HV.o,DI];rfl
  rw[DI];go_wp2_with fail;go_ret;exact⟨Ze ck.o.symm,cP.o⟩
 rw[DI,Bool.true_and] at HV;rw[DI];clear DI;go_wp2_with (go_at_call 21;fail);go_at_call 21;refine (aW _ _ _ _).mono ?_;rintro e w' ⟨rfl,rfl⟩;rcases yL (Zw s.brake 0 67108864) with Mw|Mw;rotate_left
 ·have ck:Y0 (mE s=false):=by unfold Y0;rw[HV.o,Mw];rfl
  rw[Mw];go_wp2_with fail;go_ret;exact⟨Ze ck.o.symm,cP.o⟩
 rw[Mw,Bool.true_and] at HV;rw[Mw];clear Mw;go_wp2_with fail;clear z0 z1 z2 z3 z6 z7 z8 z9 j8 fS htm vr dz;go_loopw [3] (fun x wr=>∃k:Nat,k≤s.lines.length∧x=.int .i64 k∧Y0 (gS (o8 s.lines s.len) k=true)∧∃q,wr=W1.drewN q) (fun x _=>s.lines.length-(intOf x).toNat)
 case atStart=>exact⟨0,yI _,rfl,lJ _,0,rfl⟩
 obtain⟨k,hk,rfl,HU,q,rfl⟩:=hrel;by_cases ay:k<s.lines.length
 ·obtain⟨b,off,rfl,hb,hc⟩:=zQ.o k ay;have y0:=(cP.o.cell (p:=⟨b,off+k,none⟩) hb).trans (hc k ay);have i1:(0:Int)≤(k:Int):=yE _;have i2:(k:Int)<(s.lines.length:Int):=by omega
  have sJ:Y0 (o8 s.lines s.len k=(Zw (j7 s.lines k) 0 s.len&&(decide (k=0)||decide (j7 s.lines (k-1)<j7 s.lines k)))):=rfl;have gM:=zh (fun h:o8 s.lines s.len k=false=>show mE s=false by rw[HV.o,rq ay h];rfl);have rf:=fun W=>aW (j7 s.lines k) 0 s.len W;rcases yL (Zw (j7 s.lines k) 0 s.len) with h0|h0;rotate_left
  ·have ck:Y0 (mE s=false):=gM.o (by rw[sJ.o,h0];rfl);rw[h0] at rf;clear h0 hc;go_wp2;go_quiet ((go_at_call 21;exact px (rf _)));go_wp2;go_ret;exact⟨Ze ck.o.symm,Zf (Zf cP.o _) _⟩
  rw[h0] at rf sJ;clear h0;by_cases hz:k=0
  ·have g0:decide (0<k)=false:=by rw[YD];omega
   have OY:=zh (jQ HU.o (show o8 s.lines s.len k=true by rw[sJ.o,yD hz];rfl));clear hz hc;go_wp2;go_quiet ((go_at_call 21;exact px (rf _)));go_wp2;go_roundw
   case rel=>exact⟨k+1,by omega,by go_num,OY,_,rfl⟩
   simp[intOf];omega
  have g0:decide (0<k)=true:=by rw[yO];omega
  have y1:=(cP.o.cell (p:=⟨b,off+(k-1),none⟩) hb).trans (hc (k-1) (by omega));have v1:IntKind.i64.wrap ((k:Int)-1)=(k:Int)-1:=yF _ (by omega);have i3:((k:Int)-1).toNat=k-1:=by omega
  have i4:(0:Int)≤(k:Int)-1:=by omega
  have i5:(k:Int)-1<(s.lines.length:Int):=by omega
  rw[yC hz,Bool.false_or] at sJ;clear hz hc;by_cases c1:j7 s.lines k≤j7 s.lines (k-1)
  ·have d1:decide (j7 s.lines k≤j7 s.lines (k-1))=true:=yD c1;have ck:Y0 (mE s=false):=gM.o (by rw[sJ.o,yC (by omega)];rfl);clear c1;go_wp2;go_quiet ((go_at_call 21;exact px (rf _)));go_wp2;go_ret;exact⟨Ze ck.o.symm,Zf (Zf cP.o _) _⟩
  have d1:decide (j7 s.lines k≤j7 s.lines (k-1))=false:=yC c1;have OY:=zh (jQ HU.o (show o8 s.lines s.len k=true by rw[sJ.o,yD (by omega)];rfl));clear c1;go_wp2;go_quiet ((go_at_call 21;exact px (rf _)));go_wp2;go_roundw
  case rel=>exact⟨k+1,by omega,by go_num,OY,_,rfl⟩
  simp[intOf];omega
 obtain rfl:k=s.lines.length:=by omega
 have PF:Y0 (mE s=(fC s.items s.len&&dU s.bricks)):=by unfold Y0;rw[HV.o,HU.o,Bool.true_and]
 have HBq:=zh (Zf cP.o q);have Dx:=zh (HD.o.drewN q);clear HV HU z4 z5 iT cP HD;generalize W1.drewN q=W2 at*;have hit:=HIt.o Dv.o _ HBq.o;have z0:=Dx.o.cell 0;have z1:=Dx.o.cell 1;have z2:=Dx.o.cell 2;have z3:=Dx.o.cell 3;have z4:=Dx.o.cell 4;have z5:=Dx.o.cell 5;have z6:=Dx.o.cell 6;have z7:=Dx.o.cell 7;have z8:=Dx.o.cell 8;have z9:=Dx.o.cell 9;have j8:=Dx.o.cell 10;have fS:=Dx.o.cell 11;have iT:=Dx.o.cell 12
 simp only[aG,aH,aD] at z0 z1 z2 z3 z4 z5 z6 z7 z8 z9 j8 fS iT;go_wp2_with (go_at_call 22;fail);go_at_call 22;refine hit.mono ?_;rintro e w3 ⟨rfl,bM⟩;have cZ:=zh (HBq.o.trans (bM.mono HBq.o.size));have d9:=zh (Dx.o.below bM Dx.o.lt);clear hit bM HBq Dx z0 z1 z2 z3 z4 z5 z6 z7 z8 z9 j8 fS iT;have iT:=d9.o.cell 12;simp only[aG,aH,aD] at iT;have hbr:=vvH.o _ cZ.o;rcases yL (fC s.items s.len) with h1|h1
 rotate_left
 ·rw[h1] at PF⊢;go_wp2_with fail;go_ret;exact⟨Ze PF.o.symm,cZ.o⟩
 rw[h1,Bool.true_and] at PF;rw[h1];go_wp2_with (go_at_call 23;refine hbr.mono ?_;rintro e w4 ⟨rfl,q4,rfl⟩);go_ret;exact⟨Ze PF.o.symm,Zf cZ.o _⟩
theorem AU (v:Value) (s:SetT) (w:World) (hv:SetAt w w.heap.size v s) (hn:SetNames s):Calls Tryz.prog 26 #[v] w (LinesPost s w):=by
 have HV:=zh fun W (hb:Below w.heap.size w W)=>qk v s W (hv.grow hb) hn;have HL:=zh fun W (hb:Below w.heap.size w W) (h:cD s=true)=>I6 v s W (hv.grow hb) hn h;have tR:Y0 (cD s=false→Zs s=1):=fun h=>by unfold Zs;rw[if_neg (by rw[h];decide)]
 obtain⟨Al,cl,Ai,ci,Ab,cb,rfl,-,-,-⟩:=hv;have HB:=zh (zn w (.cells (zA s Al cl Ai ci Ab cb) 26));have HD:=zh (Blk.new w 26 (zA s Al cl Ai ci Ab cb));clear hn;unfold LinesPost at*;unfold fc at*;go_enter Tryz.func26,Tryz.ntmps26;go_upto_region 1 with fail;generalize w.alloc (.cells (zA s Al cl Ai ci Ab cb) 26)=W1 at*;obtain⟨z0,z1,z2,z3,z4,z5,z6,z7,z8,z9,j8,fS,iT⟩:=HD.o.c13;go_wp2_with (go_at_call 7;fail)
 go_at_call 7;refine (HV.o _ HB.o).mono ?_;rintro e w2 ⟨rfl,aU⟩;clear z0 z1 z2 z3 z4 z5 z6 z7 z8 z9 j8 fS iT HV;have HB:=zh (HB.o.trans (aU.mono HB.o.size));have HD:=zh (HD.o.below aU HD.o.lt);clear aU;cases h0:cD s
 ·have HX:=zh (tR.o h0);clear HL tR h0;go_wp2_with fail;refine YF (results_tmp2 rfl _ _ _) (by rfl) ?_;exact⟨HB.o,.inr ⟨by rw[HX.o];decide,by rw[HX.o];rfl⟩⟩
 have HL:=zh fun W hb=>HL.o W hb h0;clear tR h0;go_upto_region 3 with fail;obtain⟨z0,z1,z2,z3,z4,z5,z6,z7,z8,z9,j8,fS,iT⟩:=HD.o.c13;go_wp2_with (go_at_call 57;refine (HL.o _ HB.o).mono ?_;rintro e w3 ⟨bM,h⟩;rcases h with⟨hE,v4,rfl,h4⟩|⟨hE,rfl⟩)
 ·refine YF (results_tmp2 rfl _ _ _) (by rfl) ?_;exact⟨HB.o.trans (bM.mono HB.o.size),.inl ⟨hE,v4,rfl,h4⟩⟩
 refine YF (results_tmp2 rfl _ _ _) (by rfl) ?_;exact⟨HB.o.trans (bM.mono HB.o.size),.inr ⟨hE,rfl⟩⟩
def fX (s:SetT) (f:FrT):Int:=if cD s=true then fp f else 1
theorem Zp (s:SetT) (f:FrT):dD s f=if fX s f=0 then Zs s else fX s f:=by
 unfold dD fX;cases cD s
 ·rfl
 rfl
theorem Nt (v:Value) (s:SetT) (f:FrT) (w:World) (hv:SetAt w w.heap.size v s) (hn:SetNames s):Calls Tryz.prog 58 #[v,f.val] w fun e w'=>e=.returned (.int .i64 (fX s f))∧Below w.heap.size w w':=by
 have HV:=zh fun W (hb:Below w.heap.size w W)=>qk v s W (hv.grow hb) hn;have HF:=zh fun W=>wO f W;have HI:=zh fun W (h:au f=true)=>wQ f W h;have H1:Y0 (cD s=false→fX s f=1):=fun h=>by unfold fX;rw[if_neg (by rw[h];decide)]
 have H2:Y0 (cD s=true→au f=false→fX s f=1):=fun h h2=>by unfold fX fp;rw[if_pos h,if_neg (by rw[h2];decide)]
 have H3:Y0 (cD s=true→au f=true→fX s f=if decide (fp f=0)=true then 0 else 2):=fun h h2=>by
  unfold fX;rw[if_pos h];unfold fp;rw[if_pos h2];by_cases c:f.den≤f.num∧f.num≤100∧f.den≤100
  ·rw[if_pos c];rfl
  rw[if_neg c];rfl
 obtain⟨Al,cl,Ai,ci,Ab,cb,rfl,-,-,-⟩:=hv;generalize fX s f=ge at*;generalize decide (fp f=0)=fe at*;generalize hgf:au f=gf at*;clear hgf;obtain⟨num,den⟩:=f
 try simp only at*
 have hD:=(Blk.new w 26 (zA s Al cl Ai ci Ab cb)).alloc (.cells #[.int .i64 num,.int .i64 den] 29);have hE:=Blk.new (w.alloc (.cells (zA s Al cl Ai ci Ab cb) 26)) 29 #[.int .i64 num,.int .i64 den];rw[yZ] at hE;have HD:=zh hD;have HE:=zh hE;have HB:=zh (pI w (.cells (zA s Al cl Ai ci Ab cb) 26) (.cells #[.int .i64 num,.int .i64 den] 29));clear hn hD hE;unfold fc at*;go_enter Tryz.func58,Tryz.ntmps58
 go_upto_region 1 with fail;generalize (w.alloc (.cells (zA s Al cl Ai ci Ab cb) 26)).alloc (.cells #[.int .i64 num,.int .i64 den] 29)=W1 at*;obtain⟨z0,z1,z2,z3,z4,z5,z6,z7,z8,z9,j8,fS,iT⟩:=HD.o.c13;obtain⟨e0,e1⟩:=HE.o.c2;go_wp2_with (go_at_call 7;fail);go_at_call 7;refine (HV.o _ HB.o).mono ?_;rintro e w2 ⟨rfl,aU⟩;clear z0 z1 z2 z3 z4 z5 z6 z7 z8 z9 j8 fS iT HV e0 e1;have HB:=zh (HB.o.trans (aU.mono HB.o.size))
 have HE:=zh (HE.o.below aU HE.o.lt);clear aU HD;cases h0:cD s
 ·have HX:=zh (H1.o h0);clear H1 H2 H3 h0;go_wp2_with fail;go_ret;exact⟨eK HX.o.symm,HB.o⟩
 have H2:=zh (H2.o h0);have H3:=zh (H3.o h0);clear H1 h0;obtain⟨e0,e1⟩:=HE.o.c2;go_wp2_with (go_at_call 9;fail);go_at_call 9;refine (HF.o _).mono ?_;rintro e w3 ⟨rfl,bM⟩;clear HF e0 e1;have HB:=zh (HB.o.trans (bM.mono HB.o.size));have HE:=zh (HE.o.below bM HE.o.lt);clear bM;cases gf
 ·have HX:=zh (H2.o rfl);clear H2 H3;go_wp2_with fail;go_ret;exact⟨eK HX.o.symm,HB.o⟩
 have H3t:=zh (H3.o rfl);have nQ:=zh fun W=>HI.o W rfl;clear H2 HI H3;obtain⟨e0,e1⟩:=HE.o.c2;go_wp2_with (go_at_call 10;fail);go_at_call 10;refine (nQ.o _).mono ?_;rintro e w4 ⟨rfl,bU⟩;have HB:=zh (HB.o.trans (bU.mono HB.o.size));clear nQ e0 e1 bU;cases fe
 ·have HX:Y0 (ge=2):=H3t.o;clear H3t;go_wp2_with fail;go_ret;exact⟨eK HX.o.symm,HB.o⟩
 have HX:Y0 (ge=0):=H3t.o;clear H3t;go_wp2_with fail;go_ret;exact⟨eK HX.o.symm,HB.o⟩
