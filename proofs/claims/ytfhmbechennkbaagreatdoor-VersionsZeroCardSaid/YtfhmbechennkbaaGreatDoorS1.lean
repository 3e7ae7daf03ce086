/- Lemmas. -/
import Derived.Test.YtfhmbechennkbaaGreatDoorC1
import Derived.Test.YtfhmbechennkbaaGreatDoorD2
namespace Go.Proofs.YtfhmbechennkbaaGreatDoor
set_option maxRecDepth 100000
set_option maxHeartbeats 40000000
open Go.RowKit Go.Shelf
theorem bf (n lo hi:Int) (w:World):Calls Tryz.prog 48 #[.int .i64 n,.int .i64 lo,.int .i64 hi] w fun e w'=>e = .returned (.bool (Zw n lo hi))∧w=w':=by
 by_cases h1:lo≤n
 ·by_cases h2:n≤hi
  all_goals
   go_enter Tryz.func48,Tryz.ntmps48
   go_wp2
   go_ret
   exact⟨Ze (by unfold Zw;symm;simp;omega),rfl⟩
 have PP:decide (lo≤n)=false:=by simpa using h1
 go_enter Tryz.func48,Tryz.ntmps48
 go_wp2
 go_ret
 exact⟨Ze (by unfold Zw;symm;simp;omega),rfl⟩
theorem oW {n lo hi:Int}:Zw n lo hi=true↔lo≤n∧n≤hi:=by unfold Zw;rw[decide_eq_true_iff]
theorem RE (x y:ItemT) (w:World) (hx:0≤x.pos∧x.pos≤1048576∧1≤x.width∧x.width≤1048576) (hy:0≤y.pos∧y.pos≤1048576∧1≤y.width∧y.width≤1048576) :
  Calls Tryz.prog 97 #[x.val,y.val] w fun e w'=>e = .returned (.bool (eY x y))∧Below w.heap.size w w':=by
 have HB:Y0 (Below w.heap.size w ((w.alloc (.cells #[.string x.name,.int .i64 x.pos,.int .i64 x.width,.int .i64 x.wt,.int .i64 x.hang,.int .i64 x.front,.int .i64 x.back] 118)).alloc (.cells #[.string y.name,.int .i64 y.pos,.int .i64 y.width,.int .i64 y.wt,.int .i64 y.hang,.int .i64 y.front,.int .i64 y.back] 118))):=((yB _ _).alloc (yA _) _).alloc (by simp) _
 have HV:Y0 (eY x y=(decide (x.pos+x.width≤y.pos)||decide (y.pos+y.width≤x.pos))):=rfl
 obtain⟨xn,xp,xw,x3,x4,x5,x6⟩:=x
 obtain⟨yn,yp,yw,y3,y4,y5,y6⟩:=y
 simp only at *
 have v1:IntKind.i64.wrap (xp+xw)=xp+xw:=yF _ (by omega)
 have v2:IntKind.i64.wrap (yp+yw)=yp+yw:=yF _ (by omega)
 clear hx hy
 by_cases h1:xp+xw≤yp
 ·have d1:decide (xp+xw≤yp)=true:=yD h1
  go_enter Tryz.func97,Tryz.ntmps97
  go_wp2_with fail
  go_ret
  exact⟨Ze (by rw[HV.o,d1];rfl),HB.o⟩
 have d1:decide (xp+xw≤yp)=false:=yC h1
 go_enter Tryz.func97,Tryz.ntmps97
 go_wp2_with fail
 go_ret
 exact⟨Ze (by rw[HV.o,d1];rfl),HB.o⟩
theorem Qt {x:ItemT} {len:Int}:(da x.name&&(Zw x.width 1 1048576&&(Zw x.pos 0 (len-x.width)&&(Zw x.wt 0 1048576&&(Zw x.hang 0 1048576&&(Zw x.front 0 1048576&&Zw x.back 0 1048576))))))=(eZ x&&dy x len):=by
 have e:Zw x.pos 0 (len-x.width)=(decide (0≤x.pos)&&decide (x.pos≤len-x.width)):=by unfold Zw;rw[Bool.decide_and]
 unfold eZ dy
 rw[e]
 generalize da x.name=a0
 generalize Zw x.width 1 1048576=a1
 generalize decide (0≤x.pos)=a2
 generalize decide (x.pos≤len-x.width)=a3
 generalize Zw x.wt 0 1048576=a4
 generalize Zw x.hang 0 1048576=a5
 generalize Zw x.front 0 1048576=a6
 generalize Zw x.back 0 1048576=a7
 revert a0 a1 a2 a3 a4 a5 a6 a7
 decide
theorem RF (x:ItemT) (len:Int) (w:World) (hn:x.name.size≤maxLen) (hl:1000≤len∧len≤1048576) :
  Calls Tryz.prog 96 #[x.val,.int .i64 len] w fun e w'=>e = .returned (.bool (eZ x&&dy x len))∧Below w.heap.size w w':=by
 have HB:Y0 (Below w.heap.size w (w.alloc (.cells #[.string x.name,.int .i64 x.pos,.int .i64 x.width,.int .i64 x.wt,.int .i64 x.hang,.int .i64 x.front,.int .i64 x.back] 118))):=(yB _ _).alloc (yA _) _
 have gg:=fun W=>pC x.name hn W
 rw[← Qt]
 obtain⟨xn,xp,xw,x3,x4,x5,x6⟩:=x
 simp only at *
 have Hl:=zh hl
 clear hn hl
 generalize IS:(da xn&&(Zw xw 1 1048576&&(Zw xp 0 (len-xw)&&(Zw x3 0 1048576&&(Zw x4 0 1048576&&(Zw x5 0 1048576&&Zw x6 0 1048576))))))=res
 have HR:=zh IS
 clear IS
 go_enter Tryz.func96,Tryz.ntmps96
 go_wp2_with (go_at_call 47;fail)
 go_at_call 47
 refine (gg _).mono ?_
 rintro e w' ⟨rfl,rfl⟩
 rcases yL (da xn) with h0 | h0
 rotate_left
 ·rw[h0] at HR ⊢
  go_wp2_with fail
  go_ret
  exact⟨Ze HR.o,HB.o⟩
 rw[h0] at HR ⊢
 clear h0
 go_wp2_with (go_at_call 48;fail)
 go_at_call 48
 refine (bf _ _ _ _).mono ?_
 rintro e w' ⟨rfl,rfl⟩
 rcases yL (Zw xw 1 1048576) with h1 | h1
 rotate_left
 ·rw[h1] at HR ⊢
  go_wp2_with fail
  go_ret
  exact⟨Ze HR.o,HB.o⟩
 rw[h1] at HR ⊢
 have hwb:=Zh h1
 have v1:IntKind.i64.wrap (len-xw)=len-xw:=yF _ (by have:=Hl.o;omega)
 clear hwb
 clear h1
 go_wp2_with (go_at_call 48;fail)
 go_at_call 48
 refine (bf _ _ _ _).mono ?_
 rintro e w' ⟨rfl,rfl⟩
 rcases yL (Zw xp 0 (len-xw)) with h2 | h2
 rotate_left
 ·rw[h2] at HR ⊢
  go_wp2_with fail
  go_ret
  exact⟨Ze HR.o,HB.o⟩
 rw[h2] at HR ⊢
 clear h2
 go_wp2_with (go_at_call 48;fail)
 go_at_call 48
 refine (bf _ _ _ _).mono ?_
 rintro e w' ⟨rfl,rfl⟩
 rcases yL (Zw x3 0 1048576) with h3 | h3
 rotate_left
 ·rw[h3] at HR ⊢
  go_wp2_with fail
  go_ret
  exact⟨Ze HR.o,HB.o⟩
 rw[h3] at HR ⊢
 clear h3
 go_wp2_with (go_at_call 48;fail)
 go_at_call 48
 refine (bf _ _ _ _).mono ?_
 rintro e w' ⟨rfl,rfl⟩
 rcases yL (Zw x4 0 1048576) with h4 | h4
 rotate_left
 ·rw[h4] at HR ⊢
  go_wp2_with fail
  go_ret
  exact⟨Ze HR.o,HB.o⟩
 rw[h4] at HR ⊢
 clear h4
 go_wp2_with (go_at_call 48;fail)
 go_at_call 48
 refine (bf _ _ _ _).mono ?_
 rintro e w' ⟨rfl,rfl⟩
 rcases yL (Zw x5 0 1048576) with h5 | h5
 rotate_left
 ·rw[h5] at HR ⊢
  go_wp2_with fail
  go_ret
  exact⟨Ze HR.o,HB.o⟩
 rw[h5] at HR ⊢
 clear h5
 go_wp2_with (go_at_call 48;fail)
 go_at_call 48
 refine (bf _ _ _ _).mono ?_
 rintro e w' ⟨rfl,rfl⟩
 have QQ:=zh HR.o
 go_wp2_with fail
 go_ret
 exact⟨Ze HR.o,HB.o⟩
theorem Jv (L:List ByteArray):∀ n,s7 L n=n ↔ ∀ i,i < n→L.getD i default∉L.take i
 | 0=>by simp[s7]
 | n+1=>by
  have ih:=Jv L n
  have pK:=Fc L n
  rw[s7]
  by_cases hm:L.getD n default∈L.take n
  ·rw[if_pos hm]
   constructor
   ·intro h;omega
   intro h;exact absurd hm (h n (by omega))
  rw[if_neg hm]
  constructor
  ·intro h i hi
   rcases Nat.lt_succ_iff_lt_or_eq.1 hi with h2 | rfl
   ·exact ih.1 (by omega) i h2
   exact hm
  intro h
  rw[ih.2 fun i hi=>h i (by omega)]
theorem FZ {α:Type} (f:α→ByteArray) (l:List α):ji (l.map f)=false ↔ ∀ i j (hi:i<l.length) (hj:j<l.length),j<i→f l[j]≠f l[i]:=by
 unfold ji
 rw[YE]
 have pK:=Fc (l.map f) (l.map f).length
 have h1:=Jv (l.map f) (l.map f).length
 have hg:∀ i (hi:i<l.length),(l.map f).getD i default=f l[i]:=fun i hi=>by
  rw[yN,YD,yM hi];rfl
 constructor
 ·intro h i j hi hj N8 e
  have h2:=h1.1 (by omega) i (by rw[yP];exact hi)
  rw[hg i hi] at h2
  refine h2 ?_
  rw[← e,List.mem_take_iff_getElem]
  exact⟨j,by rw[yP];omega,by rw[List.getElem_map]⟩
 intro h
 have h2:=h1.2 fun i hi=>by
  rw[yP] at hi
  rw[hg i hi]
  intro hm
  rw[List.mem_take_iff_getElem] at hm
  obtain⟨j,hj,e⟩:=hm
  rw[yP] at hj
  rw[List.getElem_map] at e
  exact h i j hi (by omega) (by omega) e
 omega
def it0:ItemT:=⟨⟨#[]⟩,0,0,0,0,0,0⟩
def br0:BrickT:=⟨⟨#[]⟩,0,0⟩
def IH (l:List ItemT) (i:Nat):ItemT:=l.getD i it0
def XD (l:List BrickT) (i:Nat):BrickT:=l.getD i br0
theorem iL {l:List ItemT} {i:Nat} (h:i<l.length):IH l i=l[i]:=by unfold IH;rw[List.getD_eq_getElem?_getD,List.getElem?_eq_getElem h];rfl
theorem iT {l:List BrickT} {i:Nat} (h:i<l.length):XD l i=l[i]:=by unfold XD;rw[List.getD_eq_getElem?_getD,List.getElem?_eq_getElem h];rfl
def rM (l:List ItemT) (k j:Nat):Bool:=!decide ((IH l j).name=(IH l k).name)&&eY (IH l j) (IH l k)
def fA (l:List ItemT) (len:Int) (k:Nat):Bool:=(eZ (IH l k)&&dy (IH l k) len)&&iI (rM l k) k
def fU (l:List ItemT) (len:Int):Bool:=decide (l.length≤40)&&iI (fA l len) l.length
theorem uL (x y:ItemT):eY x y=eY y x:=by unfold eY;rw[Bool.or_comm]
theorem Ps (l:List ItemT) (len:Int):fU l len=eT l len:=by
 have hR:fU l len=true↔l.length≤40∧∀ k (hk:k<l.length),(eZ l[k]=true∧dy l[k] len=true)∧∀ j (hj:j<k),l[j].name≠l[k].name∧eY l[j] l[k]=true:=by
  unfold fU
  rw[Bool.and_eq_true,yO,kL]
  refine and_congr_right fun _=>?_
  constructor
  ·intro h k hk
   have:=h k hk
   unfold fA at this
   rw[iL hk,Bool.and_eq_true,Bool.and_eq_true,kL] at this
   refine⟨this.1,fun j hj=>?_⟩
   have h2:=this.2 j hj
   unfold rM at h2
   rw[iL hk,iL (show j<l.length by omega),Bool.and_eq_true,Bool.not_eq_true',YE] at h2
   exact h2
  intro h k hk
  unfold fA
  rw[iL hk,Bool.and_eq_true,Bool.and_eq_true,kL]
  refine⟨(h k hk).1,fun j hj=>?_⟩
  unfold rM
  rw[iL hk,iL (show j<l.length by omega),Bool.and_eq_true,Bool.not_eq_true',YE]
  exact (h k hk).2 j hj
 have hB:eT l len=true↔l.length≤40∧∀ k (hk:k<l.length),(eZ l[k]=true∧dy l[k] len=true)∧∀ j (hj:j<k),l[j].name≠l[k].name∧eY l[j] l[k]=true:=by
  unfold eT tB
  rw[Bool.and_eq_true,Bool.and_eq_true,yO,Bool.not_eq_true',FZ,yO]
  refine and_congr_right fun _=>?_
  constructor
  ·rintro⟨h1,h2⟩ k hk
   have h3:=h2 k hk
   rw[mb hk,Bool.and_eq_true,Bool.and_eq_true,Bool.not_eq_true',List.any_eq_false] at h3
   refine⟨⟨h3.1,h3.2.1⟩,fun j hj=>⟨h1 k j hk (by omega) hj,?_⟩⟩
   have:=h3.2.2 l[j] (by rw[List.mem_take_iff_getElem];exact⟨j,by omega,rfl⟩)
   rw[uL]
   simpa using this
  intro h
  refine⟨fun i j hi hj N8=>((h i hi).2 j N8).1,fun k hk=>?_⟩
  rw[mb hk,Bool.and_eq_true,Bool.and_eq_true,Bool.not_eq_true',List.any_eq_false]
  refine⟨(h k hk).1.1,(h k hk).1.2,fun y hy=>?_⟩
  rw[List.mem_take_iff_getElem] at hy
  obtain⟨j,hj,rfl⟩:=hy
  rw[uL,((h k hk).2 j (by omega)).2]
  simp
 rw[Bool.eq_iff_iff,hR,hB]
def uw (l:List BrickT) (k j:Nat):Bool:=!decide ((XD l j).name=(XD l k).name)
def eU (l:List BrickT) (k:Nat):Bool:=eH (XD l k)&&iI (uw l k) k
def dZ (l:List BrickT):Bool:=decide (l.length≤8)&&(iI (eU l) l.length&&decide (iw l l.length≤60))
theorem Mn (l:List BrickT):dZ l=dB l:=by
 have h1:iI (eU l) l.length=(!ji (l.map BrickT.name)&&l.all eH):=by
  rw[Bool.eq_iff_iff,Bool.and_eq_true,Bool.not_eq_true',FZ,kL,List.all_eq_true]
  constructor
  ·intro h
   have h2:∀ k (hk:k<l.length),eH l[k]=true∧∀ j (hj:j<k),l[j].name≠l[k].name:=fun k hk=>by
    have:=h k hk
    unfold eU at this
    rw[iT hk,Bool.and_eq_true,kL] at this
    refine⟨this.1,fun j hj=>?_⟩
    have h3:=this.2 j hj
    unfold uw at h3
    rw[iT hk,iT (show j<l.length by omega),Bool.not_eq_true',YE] at h3
    exact h3
   refine⟨fun i j hi hj N8=>(h2 i hi).2 j N8,fun x hx=>?_⟩
   obtain⟨i,hi,rfl⟩:=List.getElem_of_mem hx
   exact (h2 i hi).1
  rintro⟨h2,h3⟩ k hk
  unfold eU
  rw[iT hk,Bool.and_eq_true,kL]
  refine⟨h3 _ (yV hk),fun j hj=>?_⟩
  unfold uw
  rw[iT hk,iT (show j<l.length by omega),Bool.not_eq_true',YE]
  exact h2 k j hk (by omega) hj
 unfold dZ dB
 rw[h1,Bool.and_assoc]
def oC (l:List Int) (len:Int) (i:Nat):Bool:=Zw (jQ l i) 0 len&&(decide (i=0)||decide (jQ l (i-1)<jQ l i))
theorem AV {l:List Int} {n:Nat} (h:je l n=true):∀ i j,i≤j→j<n→jQ l i≤jQ l j:=by
  unfold je at h
  rw[yO] at h
  intro i j hij
  induction j with
  | zero=>
    intro _; obtain rfl:i=0:=by omega
    exact Int.le_refl _
  | succ j ih=>
    intro hj
    rcases Nat.lt_or_ge j i with h1 | h1
    · obtain rfl:i=j+1:=by omega
      exact Int.le_refl _
    have h2:=ih h1 (by omega)
    have h3:=h (j+1) hj (by omega)
    rw[Nat.add_sub_cancel] at h3
    omega
theorem Pn (l:List Int) (len:Int):(Zw (l.length:Int) 2 10&&iI (oC l len) l.length)=fp l len:=by
 rw[Bool.eq_iff_iff]
 unfold fp
 rw[Bool.and_eq_true,Bool.and_eq_true,Bool.and_eq_true,Bool.and_eq_true]
 refine and_congr_right fun h0=>?_
 have h0':=Zh h0
 rw[kL,Bool.not_eq_true',Bool.not_eq_true',YE,YE]
 constructor
 ·intro h
  have h1:∀ i,i<l.length→(0≤jQ l i∧jQ l i≤len)∧(i=0∨jQ l (i-1)<jQ l i):=fun i hi=>by
   have:=h i hi
   unfold oC at this
   rw[Bool.and_eq_true,Bool.or_eq_true,yO,yO,oW] at this
   exact this
  refine⟨?_,?_,?_⟩
  ·have:=(h1 0 (by omega)).1;omega
  ·have:=(h1 (l.length-1) (by omega)).1;omega
  unfold je
  rw[yO]
  intro i hi h2
  rcases (h1 i hi).2 with h3 | h3
  ·omega
  exact h3
 rintro⟨h1,h2,h3⟩ i hi
 have m1:=AV h3 0 i (by omega) hi
 have m2:=AV h3 i (l.length-1) (by omega) (by omega)
 unfold oC
 rw[Bool.and_eq_true,Bool.or_eq_true,yO,yO,oW]
 refine⟨⟨by omega,by omega⟩,?_⟩
 by_cases hz:i=0
 ·exact .inl hz
 unfold je at h3
 rw[yO] at h3
 exact .inr (h3 i hi (by omega))
def mE (s:SetT):Bool :=
 da s.name&&(Zw s.depth 0 1048576&&(Zw s.low 0 s.high&&(Zw s.high 0 1048576&&(Zw s.len 1000 1048576&&((s.len % 1000==0)&&(Zw (s.lines.length:Int) 2 10&&(Zw s.pipe 0 1048576&&(Zw s.arbor 0 1048576&&(Zw s.purch 1 2&&(Zw s.most 1 67108864&&(Zw s.brake 0 67108864&&(iI (oC s.lines s.len) s.lines.length&&(fU s.items s.len&&dZ s.bricks)))))))))))))
theorem ZH (s:SetT):mE s=bS s:=by
 unfold mE bS
 rw[Ps,Mn,← Pn]
 have e1:Zw s.low 0 s.high=(decide (0≤s.low)&&decide (s.low≤s.high)):=by unfold Zw;rw[Bool.decide_and]
 rw[e1]
 have e2:(decide (0≤s.low)&&(decide (s.low≤s.high)&&Zw s.high 0 1048576))=(decide (0≤s.low)&&(decide (s.low≤s.high)&&decide (s.high≤1048576))):=by
  rw[Bool.eq_iff_iff]
  simp only[Bool.and_eq_true,decide_eq_true_eq,oW]
  omega
 generalize da s.name=a0
 generalize Zw s.depth 0 1048576=a1
 generalize decide (0≤s.low)=a2 at *
 generalize decide (s.low≤s.high)=a3 at *
 generalize Zw s.high 0 1048576=a4 at *
 generalize decide (s.high≤1048576)=a5 at *
 generalize (Zw s.len 1000 1048576)=a6
 generalize (s.len % 1000==0)=a7
 generalize Zw (s.lines.length:Int) 2 10=a8
 generalize iI (oC s.lines s.len) s.lines.length=a9
 generalize Zw s.pipe 0 1048576=b0
 generalize Zw s.arbor 0 1048576=b1
 generalize Zw s.purch 1 2=b2
 generalize Zw s.most 1 67108864=b3
 generalize Zw s.brake 0 67108864=b4
 generalize eT s.items s.len=b5
 generalize dB s.bricks=b6
 have e3:∀ x,(a2&&(a3&&(a4&&x)))=(a2&&(a3&&(a5&&x))):=fun x=>by
  have:=congrArg (fun y=>y&&x) e2
  simpa only[Bool.and_assoc] using this
 simp only[Bool.and_assoc]
 rw[e3]
 cases a0 <;> cases a1 <;> cases a2 <;> cases a3 <;> cases a5 <;> cases a6 <;> cases a7 <;> cases a8 <;> simp only[Bool.false_and,Bool.and_false,Bool.true_and]
 rw[Bool.and_left_comm a9 b0,Bool.and_left_comm a9 b1,Bool.and_left_comm a9 b2,Bool.and_left_comm a9 b3,Bool.and_left_comm a9 b4]
theorem tA {l:List ItemT} {len:Int} {k:Nat} (hk:k<l.length) (h:fA l len k=false):fU l len=false:=by
 unfold fU
 rw[rz hk h,Bool.and_false]
theorem IG {l:List ItemT} {len:Int} {k:Nat} (hk:k<l.length) (h:(eZ l[k]&&dy l[k] len)=false):fA l len k=false:=by
 unfold fA
 rw[iL hk,h,Bool.false_and]
theorem uA {l:List ItemT} {len:Int} {k j:Nat} (hj:j<k) (h:rM l k j=false):fA l len k=false:=by
 unfold fA
 rw[rz hj h,Bool.and_false]
theorem uB {l:List ItemT} {len:Int} {k:Nat} (hk:k<l.length) (h:(eZ l[k]&&dy l[k] len)=true) (hl:len≤1048576):DV l[k]:=by
 rw[Bool.and_eq_true] at h
 exact qJ h.2 hl
theorem Vy {l:List ItemT} {k j:Nat} (hk:k<l.length) (hj:j<l.length):rM l k j=(!decide (l[j].name=l[k].name)&&eY l[j] l[k]):=by
 unfold rM
 rw[iL hk,iL hj]
theorem Ou {l:List ItemT} {len:Int} {k j:Nat} (h:iI (fA l len) k=true) (hj:j<k) (hk:k≤l.length) (hl:len≤1048576):DV (l[j]'(by omega)):=by
 have:=MO h hj
 unfold fA at this
 rw[iL (show j<l.length by omega),Bool.and_eq_true] at this
 exact uB (by omega) this.1 hl
theorem RB (v:Value) (s:SetT) (w:World) (hv:SetAt w w.heap.size v s) (hn:∀ x∈s.items,x.name.size≤maxLen) (bL:1000≤s.len∧s.len≤1048576) :
  Calls Tryz.prog 49 #[v] w fun e w'=>e = .returned (.bool (fU s.items s.len))∧Below w.heap.size w w':=by
 obtain⟨Al,cl,Ai,ci,Ab,cb,rfl,hL,hI,hB⟩:=hv
 obtain⟨_,_,e,N9,Wu,QG⟩:=hI.open_
 injection e with e1 _ e2
 subst e1 e2
 have HI:=zh QG
 have HN:=zh hn
 have tU:=zh bL
 have HD:=zh (Blk.new w 26 (zA s Al cl Ai ci Ab cb))
 have bZ:=zh ((yB _ w).alloc (yA _) (.cells (zA s Al cl Ai ci Ab cb) 26))
 unfold maxLen at Wu
 unfold aL
 clear hL hI hB QG hn bL
 by_cases c0:40<(s.items.length:Int)
 ·have d0:decide (40<(s.items.length:Int))=true:=yD c0
  have HV:Y0 (fU s.items s.len=false):=by unfold Y0 fU;rw[decide_eq_false (show ¬ s.items.length≤40 by omega)];rfl
  go_enter Tryz.func49,Tryz.ntmps49
  go_wp2
  go_ret
  exact⟨Ze HV.o.symm,bZ.o⟩
 have d0:decide (40<(s.items.length:Int))=false:=yC c0
 have HV:Y0 (fU s.items s.len=iI (fA s.items s.len) s.items.length):=by unfold Y0 fU;rw[decide_eq_true (show s.items.length≤40 by omega)];rfl
 go_enter Tryz.func49,Tryz.ntmps49
 go_wp2
 generalize w.alloc (.cells (zA s Al cl Ai ci Ab cb) 26)=W1 at *
 go_loopw [3] (fun x wr=>∃ k:Nat,k≤s.items.length∧x = .int .i64 k∧Y0 (iI (fA s.items s.len) k=true)∧Below W1.heap.size W1 wr) (fun x _=>s.items.length-(intOf x).toNat)
 case atStart=>exact⟨0,yI _,rfl,lS _,yB _ _⟩
 obtain⟨k,hk,rfl,HU,av⟩:=hrel
 have HDr:=zh (HD.o.below av HD.o.lt)
 have Ka:=bZ.o.trans (av.mono bZ.o.size)
 have fc:=HDr.o.cell 11
 have z4:=HDr.o.cell 4
 simp only[aP,aQ,aO] at fc z4
 by_cases aB:k<s.items.length
 ·obtain⟨b,off,rfl,hb,hc⟩:=HI.o k aB
  have HC:=zh hc
  clear hc
  have i1:(0:Int)≤(k:Int):=yE _
  have i2:(k:Int)<(s.items.length:Int):=by omega
  go_wp2
  have hc:=HC.o
  have y0:=YL ((Ka.cell (p:=⟨b,off+k*7,none⟩) hb).trans (hc k aB).1)
  have y1:=YL ((Ka.cell (p:=⟨b,off+k*7+1,none⟩) hb).trans (hc k aB).2.1)
  have y2:=YL ((Ka.cell (p:=⟨b,off+k*7+2,none⟩) hb).trans (hc k aB).2.2.1)
  have y3:=YL ((Ka.cell (p:=⟨b,off+k*7+3,none⟩) hb).trans (hc k aB).2.2.2.1)
  have y4:=YL ((Ka.cell (p:=⟨b,off+k*7+4,none⟩) hb).trans (hc k aB).2.2.2.2.1)
  have y5:=YL ((Ka.cell (p:=⟨b,off+k*7+5,none⟩) hb).trans (hc k aB).2.2.2.2.2.1)
  have y6:=YL ((Ka.cell (p:=⟨b,off+k*7+6,none⟩) hb).trans (hc k aB).2.2.2.2.2.2)
  have x4:=YL z4
  have lQ:=YL fc
  have qjI:=fun (w':World) (_:Below wr.heap.size wr w')=>RF s.items[k] s.len w' (HN.o _ (yV aB)) tU.o
  have QJ:=HeldB.call qjI
  clear qjI
  clear hc
  rcases yL (eZ s.items[k]&&dy s.items[k] s.len) with h1 | h1
  rotate_left
  ·have dH:Y0 (fU s.items s.len=false):=tA aB (IG aB h1)
   rw[h1] at QJ
   clear h1
   refine cn (by kernel_rfl) (by kernel_rfl) ?_
   repeat (go_big_quiet_step ((go_at_call 96;exact QJ _)))
   refine YH ?_
   rintro w5 ⟨⟨w6,bg⟩,rfl⟩
   go_wp2_with fail
   go_ret
   exact⟨Ze dH.o.symm,Ka.trans (bg.mono Ka.size)⟩
  have HP:=zh (uB aB h1 tU.o.2)
  have qjf:=zh h1
  rw[h1] at QJ
  clear h1
  refine cn (by kernel_rfl) (by kernel_rfl) ?_
  repeat (go_big_quiet_step ((go_at_call 96;exact QJ _)))
  refine YH ?_
  rintro w5 ⟨⟨w6,bg⟩,rfl⟩
  clear y0 y1 y2 y3 y4 y5 y6 x4 lQ QJ z4 fc
  have qjD:=Ka.trans (bg.mono Ka.size)
  have pS:=zh (HDr.o.below bg HDr.o.lt)
  have LR:=av.trans (bg.mono av.size)
  clear bg
  go_wp2_with fail
  go_loopw [4] (fun x wi=>∃ j:Nat,j≤k∧x = .int .i64 j∧Y0 (iI (rM s.items k) j=true)∧Below w5.heap.size w5 wi) (fun x _=>k-(intOf x).toNat)
  case atStart=>exact⟨0,yI _,rfl,lS _,yB _ _⟩
  obtain⟨j,hj,rfl,HU2,hbi⟩:=hrel
  have HDi:=zh (pS.o.below hbi pS.o.lt)
  have nu:=qjD.trans (hbi.mono qjD.size)
  have fc:=HDi.o.cell 11
  simp only[aP,aQ,aO] at fc
  by_cases EK:j<k
  ·have nB:j<s.items.length:=by omega
   have j1:(0:Int)≤(j:Int):=yE _
   have j2:(j:Int)<(s.items.length:Int):=by omega
   go_wp2
   have hc:=HC.o
   have y0:=YL ((nu.cell (p:=⟨b,off+k*7,none⟩) hb).trans (hc k aB).1)
   have y1:=YL ((nu.cell (p:=⟨b,off+k*7+1,none⟩) hb).trans (hc k aB).2.1)
   have y2:=YL ((nu.cell (p:=⟨b,off+k*7+2,none⟩) hb).trans (hc k aB).2.2.1)
   have y3:=YL ((nu.cell (p:=⟨b,off+k*7+3,none⟩) hb).trans (hc k aB).2.2.2.1)
   have y4:=YL ((nu.cell (p:=⟨b,off+k*7+4,none⟩) hb).trans (hc k aB).2.2.2.2.1)
   have y5:=YL ((nu.cell (p:=⟨b,off+k*7+5,none⟩) hb).trans (hc k aB).2.2.2.2.2.1)
   have y6:=YL ((nu.cell (p:=⟨b,off+k*7+6,none⟩) hb).trans (hc k aB).2.2.2.2.2.2)
   have u0:=YL ((nu.cell (p:=⟨b,off+j*7,none⟩) hb).trans (hc j nB).1)
   have u1:=YL ((nu.cell (p:=⟨b,off+j*7+1,none⟩) hb).trans (hc j nB).2.1)
   have u2:=YL ((nu.cell (p:=⟨b,off+j*7+2,none⟩) hb).trans (hc j nB).2.2.1)
   have u3:=YL ((nu.cell (p:=⟨b,off+j*7+3,none⟩) hb).trans (hc j nB).2.2.2.1)
   have u4:=YL ((nu.cell (p:=⟨b,off+j*7+4,none⟩) hb).trans (hc j nB).2.2.2.2.1)
   have u5:=YL ((nu.cell (p:=⟨b,off+j*7+5,none⟩) hb).trans (hc j nB).2.2.2.2.2.1)
   have u6:=YL ((nu.cell (p:=⟨b,off+j*7+6,none⟩) hb).trans (hc j nB).2.2.2.2.2.2)
   have lQ:=YL fc
   have qjH:=fun (w':World) (_:Below wr.heap.size wr w')=>RE s.items[j] s.items[k] w' (Ou HU.o EK hk tU.o.2) HP.o
   have Kb:=HeldB.call qjH
   clear qjH
   have HPq:=zh (Vy aB nB)
   clear hc
   by_cases hq:s.items[j].name=s.items[k].name
   ·have hqb:(s.items[j].name.toList==s.items[k].name.toList)=true:=by rw[dc];simpa using hq
    have dH:Y0 (fU s.items s.len=false):=tA aB (uA EK (by rw[HPq.o,yD hq];rfl))
    clear hq Kb
    refine cn (by kernel_rfl) (by kernel_rfl) ?_
    repeat (go_big_quiet_step (fail))
    refine YH ?_
    rintro w7 ⟨⟨w8,na⟩,rfl⟩
    go_wp2_with fail
    go_ret
    exact⟨Ze dH.o.symm,nu.trans (na.mono nu.size)⟩
   have hqb:(s.items[j].name.toList==s.items[k].name.toList)=false:=by rw[dc];simpa using hq
   have qj1:Y0 (rM s.items k j=eY s.items[j] s.items[k]):=by unfold Y0;rw[HPq.o,decide_eq_false hq];rfl
   clear hq
   rcases yL (eY s.items[j] s.items[k]) with h2 | h2
   rotate_left
   ·have dH:Y0 (fU s.items s.len=false):=tA aB (uA EK (by rw[qj1.o,h2]))
    rw[h2] at Kb
    clear h2
    refine cn (by kernel_rfl) (by kernel_rfl) ?_
    repeat (go_big_quiet_step ((go_at_call 97;exact Kb _)))
    refine YH ?_
    rintro w7 ⟨⟨w8,na⟩,rfl⟩
    go_wp2_with fail
    go_ret
    exact⟨Ze dH.o.symm,nu.trans (na.mono nu.size)⟩
   have HU3:=zh (kC HU2.o (show rM s.items k j=true by rw[qj1.o,h2]))
   rw[h2] at Kb
   clear h2
   refine cn (by kernel_rfl) (by kernel_rfl) ?_
   repeat (go_big_quiet_step ((go_at_call 97;exact Kb _)))
   refine YH ?_
   rintro w7 ⟨⟨w8,na⟩,rfl⟩
   clear y0 y1 y2 y3 y4 y5 y6 u0 u1 u2 u3 u4 u5 u6 lQ Kb
   go_wp2_with fail
   go_roundw
   case rel=>exact⟨j+1,by omega,by go_num,HU3,hbi.trans (na.mono hbi.size)⟩
   simp[intOf];omega
  obtain rfl:j=k:=by omega
  have HU4:=zh (kC HU.o (show fA s.items s.len j=true by unfold fA;rw[iL aB,qjf.o,HU2.o];rfl))
  go_wp2_with fail
  go_roundw
  case rel=>exact⟨j+1,by omega,by go_num,HU4,LR.trans (hbi.mono LR.size)⟩
  simp[intOf];omega
 obtain rfl:k=s.items.length:=by omega
 go_wp2
 go_ret
 exact⟨Ze (by rw[HV.o];exact HU.o.symm),Ka⟩
theorem J7 {l:List BrickT} {k:Nat} (hk:k<l.length) (h:eH l[k]=false):eU l k=false:=by
 unfold eU
 rw[iT hk,h,Bool.false_and]
theorem J6 {l:List BrickT} {k j:Nat} (hj:j<k) (h:uw l k j=false):eU l k=false:=by
 unfold eU
 rw[rz hj h,Bool.and_false]
theorem V8 {l:List BrickT} {k j:Nat} (hk:k<l.length) (hj:j<l.length):uw l k j = !decide (l[j].name=l[k].name):=by
 unfold uw
 rw[iT hk,iT hj]
theorem BM {l:List BrickT} {k:Nat} (hk:k<l.length) (h:eU l k=false):dZ l=false:=by
 unfold dZ
 rw[rz hk h,Bool.false_and,Bool.and_false]
theorem Mq {l:List BrickT} {k:Nat} (h:iI (eU l) k=true) (hk:k≤l.length):0≤iw l k∧iw l k≤60*k:=by
 refine X5 ?_ hk
 rw[List.all_eq_true]
 intro x hx
 rw[List.mem_take_iff_getElem] at hx
 obtain⟨i,hi,rfl⟩:=hx
 have:=MO h (show i<k by omega)
 unfold eU at this
 rw[iT (show i<l.length by omega),Bool.and_eq_true] at this
 exact this.1
theorem OI (v:Value) (l:List BrickT) (B:Nat) (w:World) (hl:BricksAt w B v l) (hn:∀ x∈l,x.name.size≤maxLen) :
  Calls Tryz.prog 50 #[v] w fun e w'=>e = .returned (.bool (dZ l))∧∃ q,w.drewN q=w':=by
 obtain⟨A,c,rfl,gC,dr,ah⟩:=hl.open_
 unfold maxLen at dr
 have HC:=zh ah
 have HN:=zh hn
 clear hl ah hn
 by_cases c0:8<(l.length:Int)
 ·have d0:decide (8<(l.length:Int))=true:=yD c0
  have HV:Y0 (dZ l=false):=by unfold Y0 dZ;rw[decide_eq_false (show ¬ l.length≤8 by omega)];rfl
  go_enter Tryz.func50,Tryz.ntmps50
  go_wp2
  go_ret
  exact⟨Ze HV.o.symm,0,rfl⟩
 have d0:decide (8<(l.length:Int))=false:=yC c0
 have HV:Y0 (dZ l=(iI (eU l) l.length&&decide (iw l l.length≤60))):=by unfold Y0 dZ;rw[decide_eq_true (show l.length≤8 by omega)];rfl
 have h8:=zh (show l.length≤8 by omega)
 go_enter Tryz.func50,Tryz.ntmps50
 go_wp2
 go_loopw [4,3] (fun x m wr=>∃ k:Nat,k≤l.length∧x = .int .i64 k∧m = .int .i64 (iw l k)∧Y0 (iI (eU l) k=true)∧∃ q,wr=w.drewN q) (fun x _ _=>l.length-(intOf x).toNat)
 case atStart=>exact⟨0,yI _,rfl,rfl,lS _,0,rfl⟩
 obtain⟨k,hk,rfl,rfl,HU,q,rfl⟩:=hrel
 by_cases aB:k<l.length
 ·obtain⟨b,off,rfl,hb,hc⟩:=HC.o k aB
  have HC2:=zh hc
  have y0:=(hc k aB).1
  have y1:=(hc k aB).2.1
  have y2:=(hc k aB).2.2
  have gg:=fun W=>pC l[k].name (HN.o _ (yV aB)) W
  have rn:Y0 (eH l[k]=(da l[k].name&&(Zw l[k].wt 1 1048576&&Zw l[k].cnt 0 60))):=rfl
  have mw:=zh (fun h:eH l[k]=false=>BM aB (J7 aB h))
  have HCn:=zh (qU l k aB)
  have i1:(0:Int)≤(k:Int):=yE _
  have i2:(k:Int)<(l.length:Int):=by omega
  clear hc
  go_wp2_with (go_at_call 47;fail)
  go_at_call 47
  refine (gg _).mono ?_
  rintro e w' ⟨rfl,rfl⟩
  rcases yL (da l[k].name) with h0 | h0
  rotate_left
  ·have dH:Y0 (dZ l=false):=mw.o (by rw[rn.o,h0];rfl)
   rw[h0]
   go_wp2_with fail
   go_ret
   exact⟨Ze dH.o.symm,_,rfl⟩
  rw[h0] at rn ⊢
  clear h0
  go_wp2_with (go_at_call 48;fail)
  go_at_call 48
  refine (bf _ _ _ _).mono ?_
  rintro e w' ⟨rfl,rfl⟩
  rcases yL (Zw l[k].wt 1 1048576) with h1 | h1
  rotate_left
  ·have dH:Y0 (dZ l=false):=mw.o (by rw[rn.o,h1];rfl)
   rw[h1]
   go_wp2_with fail
   go_ret
   exact⟨Ze dH.o.symm,_,rfl⟩
  rw[h1] at rn ⊢
  clear h1
  go_wp2_with (go_at_call 48;fail)
  go_at_call 48
  refine (bf _ _ _ _).mono ?_
  rintro e w' ⟨rfl,rfl⟩
  rcases yL (Zw l[k].cnt 0 60) with h2 | h2
  rotate_left
  ·have dH:Y0 (dZ l=false):=mw.o (by rw[rn.o,h2];rfl)
   rw[h2]
   go_wp2_with fail
   go_ret
   exact⟨Ze dH.o.symm,_,rfl⟩
  rw[h2] at rn ⊢
  have hcb:=Zh h2
  have hbd:=Mq HU.o hk
  have v1:IntKind.i64.wrap (iw l k+l[k].cnt)=iw l k+l[k].cnt:=yF _ (by have:=h8.o;omega)
  have qjf:Y0 (eH l[k]=true):=by unfold Y0;rw[rn.o];rfl
  clear h2 hcb hbd rn
  go_wp2_with fail
  clear v1 y0 y1 y2
  generalize hQ:q=q0
  clear hQ
  go_loopw [5] (fun x wr=>∃ j:Nat,j≤k∧x = .int .i64 j∧Y0 (iI (uw l k) j=true)∧∃ q,wr=w.drewN q) (fun x _=>k-(intOf x).toNat)
  case atStart=>exact⟨0,yI _,rfl,lS _,_,rfl⟩
  obtain⟨j,hj,rfl,HU2,q1,rfl⟩:=hrel
  by_cases EK:j<k
  ·have nB:j<l.length:=by omega
   have y0:=(HC2.o k aB).1
   have u0:=(HC2.o j nB).1
   have j1:(0:Int)≤(j:Int):=yE _
   have j2:(j:Int)<(l.length:Int):=by omega
   have HPq:=zh (V8 aB nB)
   by_cases hq:l[j].name=l[k].name
   ·have hqb:(l[j].name.toList==l[k].name.toList)=true:=by rw[dc];simpa using hq
    have dH:Y0 (dZ l=false):=BM aB (J6 EK (by rw[HPq.o,yD hq];rfl))
    clear hq
    go_wp2
    go_quiet (fail)
    go_wp2
    go_ret
    exact⟨Ze dH.o.symm,q2⟩
   have hqb:(l[j].name.toList==l[k].name.toList)=false:=by rw[dc];simpa using hq
   have HU3:=zh (kC HU2.o (show uw l k j=true by rw[HPq.o,yC hq];rfl))
   clear hq
   go_wp2
   go_quiet (fail)
   go_wp2
   go_roundw
   case rel=>exact⟨j+1,by omega,by go_num,HU3,_,rfl⟩
   simp[intOf];omega
  obtain rfl:j=k:=by omega
  have HU4:=zh (kC HU.o (show eU l j=true by unfold eU;rw[iT aB,qjf.o,HU2.o];rfl))
  go_wp2
  go_roundw
  case rel=>exact⟨j+1,by omega,by go_num,by rw[HCn.o],HU4,_,rfl⟩
  simp[intOf];omega
 obtain rfl:k=l.length:=by omega
 have dH:Y0 (dZ l=decide (iw l l.length≤60)):=by unfold Y0;rw[HV.o,HU.o];rfl
 go_wp2
 go_ret
 exact⟨Ze dH.o.symm,_,rfl⟩
theorem VM {w:World} {B:Nat} {A:Option Addr} {n c:Nat} {l:List Int} (h:bO w B (.slice A n c) l):n=l.length∧n≤c∧c≤maxLen∧∀ k (_:k<l.length),∃ b off,A=some ⟨b,off,none⟩∧b<B∧∀ j (_:j<l.length),w.cell? ⟨b,off+j,none⟩=some (.int .i64 (jQ l j)):=by
 obtain⟨A',c',e,h1,h2,h3⟩:=h.open_
 injection e with e1 e2 e3
 subst e1 e2 e3
 refine⟨rfl,h1,h2,fun k hk=>?_⟩
 obtain⟨b,off,e,hb,hc⟩:=h3 k hk
 refine⟨b,off,e,hb,fun j hj=>?_⟩
 rw[hc j hj]
 unfold jQ
 rw[yN,yM hj]
 rfl
theorem K5 (v:Value) (s:SetT) (w:World) (hv:SetAt w w.heap.size v s) (hn:SetNames s) :
  Calls Tryz.prog 14 #[v] w fun e w'=>e = .returned (.bool (bS s))∧Below w.heap.size w w':=by
 rw[← ZH]
 have gg:=fun W=>pC s.name hn.name W
 have qjZ:=zh fun W (hb:Below w.heap.size w W)=>hv.grow hb
 have HIt:=zh fun bL W (hb:Below w.heap.size w W)=>RB v s W (qjZ.o W hb) hn.items bL
 have HBr:=zh fun u (hu:BricksAt w w.heap.size u s.bricks) W (hb:Below w.heap.size w W)=>OI u s.bricks _ W (hu.below hb (yA _)) hn.bricks
 obtain⟨Al,cl,Ai,ci,Ab,cb,rfl,hL,hI,hB⟩:=hv
 have vqB:=zh (HBr.o _ hB)
 obtain⟨-,pL,rW,hlc⟩:=VM hL
 unfold maxLen at rW
 have vn:=zh hlc
 have HV:Y0 (mE s=(da s.name&&(Zw s.depth 0 1048576&&(Zw s.low 0 s.high&&(Zw s.high 0 1048576&&(Zw s.len 1000 1048576&&((s.len % 1000==0)&&(Zw (s.lines.length:Int) 2 10&&(Zw s.pipe 0 1048576&&(Zw s.arbor 0 1048576&&(Zw s.purch 1 2&&(Zw s.most 1 67108864&&(Zw s.brake 0 67108864&&(iI (oC s.lines s.len) s.lines.length&&(fU s.items s.len&&dZ s.bricks))))))))))))))):=rfl
 have HD:=zh (Blk.new w 26 (zA s Al cl Ai ci Ab cb))
 have bZ:=zh ((yB _ w).alloc (yA _) (.cells (zA s Al cl Ai ci Ab cb) 26))
 clear hL hI hB hn HBr qjZ hlc
 unfold aL at *
 go_enter Tryz.func14,Tryz.ntmps14
 go_wp2_with (go_at_call 47;fail)
 generalize w.alloc (.cells (zA s Al cl Ai ci Ab cb) 26)=W1 at *
 have z0:=HD.o.cell 0;have z1:=HD.o.cell 1;have z2:=HD.o.cell 2;have z3:=HD.o.cell 3;have z4:=HD.o.cell 4;have z5:=HD.o.cell 5;have z6:=HD.o.cell 6;have z7:=HD.o.cell 7;have z8:=HD.o.cell 8;have z9:=HD.o.cell 9;have jg:=HD.o.cell 10;have fc:=HD.o.cell 11;have gU:=HD.o.cell 12
 simp only[aP,aQ,aO] at z0 z1 z2 z3 z4 z5 z6 z7 z8 z9 jg fc gU
 go_at_call 47
 refine (gg _).mono ?_
 rintro e w' ⟨rfl,rfl⟩
 rcases yL (da s.name) with h0 | h0
 rotate_left
 ·have dH:Y0 (mE s=false):=by unfold Y0;rw[HV.o,h0];rfl
  rw[h0]
  go_wp2_with fail
  go_ret
  exact⟨Ze dH.o.symm,bZ.o⟩
 rw[h0,Bool.true_and] at HV
 rw[h0]
 clear h0
 go_wp2_with (go_at_call 48;fail)
 go_at_call 48
 refine (bf _ _ _ _).mono ?_
 rintro e w' ⟨rfl,rfl⟩
 rcases yL (Zw s.depth 0 1048576) with h1 | h1
 rotate_left
 ·have dH:Y0 (mE s=false):=by unfold Y0;rw[HV.o,h1];rfl
  rw[h1]
  go_wp2_with fail
  go_ret
  exact⟨Ze dH.o.symm,bZ.o⟩
 rw[h1,Bool.true_and] at HV
 rw[h1]
 clear h1
 go_wp2_with (go_at_call 48;fail)
 go_at_call 48
 refine (bf _ _ _ _).mono ?_
 rintro e w' ⟨rfl,rfl⟩
 rcases yL (Zw s.low 0 s.high) with h2 | h2
 rotate_left
 ·have dH:Y0 (mE s=false):=by unfold Y0;rw[HV.o,h2];rfl
  rw[h2]
  go_wp2_with fail
  go_ret
  exact⟨Ze dH.o.symm,bZ.o⟩
 rw[h2,Bool.true_and] at HV
 rw[h2]
 clear h2
 go_wp2_with (go_at_call 48;fail)
 go_at_call 48
 refine (bf _ _ _ _).mono ?_
 rintro e w' ⟨rfl,rfl⟩
 rcases yL (Zw s.high 0 1048576) with h3 | h3
 rotate_left
 ·have dH:Y0 (mE s=false):=by unfold Y0;rw[HV.o,h3];rfl
  rw[h3]
  go_wp2_with fail
  go_ret
  exact⟨Ze dH.o.symm,bZ.o⟩
 rw[h3,Bool.true_and] at HV
 rw[h3]
 clear h3
 go_wp2_with (go_at_call 48;fail)
 go_at_call 48
 refine (bf _ _ _ _).mono ?_
 rintro e w' ⟨rfl,rfl⟩
 rcases yL (Zw s.len 1000 1048576) with h4 | h4
 rotate_left
 ·have dH:Y0 (mE s=false):=by unfold Y0;rw[HV.o,h4];rfl
  rw[h4]
  go_wp2_with fail
  go_ret
  exact⟨Ze dH.o.symm,bZ.o⟩
 rw[h4,Bool.true_and] at HV
 rw[h4]
 have bL:=Zh h4
 have tU:=zh bL
 have htm:s.len.tmod 1000=s.len % 1000:=Int.tmod_eq_emod_of_nonneg (by omega)
 have vr:IntKind.i64.wrap (s.len % 1000)=s.len % 1000:=yF _ (by omega)
 clear bL
 clear h4
 rcases yL ((s.len % 1000==0)) with h5 | h5
 rotate_left
 ·have dH:Y0 (mE s=false):=by unfold Y0;rw[HV.o,h5];rfl
  have dz:(s.len % 1000 != 0)=true:=by unfold bne;rw[h5];rfl
  clear h5
  go_wp2_with fail
  go_ret
  exact⟨Ze dH.o.symm,bZ.o⟩
 have dz:(s.len % 1000 != 0)=false:=by unfold bne;rw[h5];rfl
 rw[h5,Bool.true_and] at HV
 clear h5
 go_wp2_with (go_at_call 48;fail)
 go_at_call 48
 refine (bf _ _ _ _).mono ?_
 rintro e w' ⟨rfl,rfl⟩
 rcases yL (Zw (s.lines.length:Int) 2 10) with h6 | h6
 rotate_left
 ·have dH:Y0 (mE s=false):=by unfold Y0;rw[HV.o,h6];rfl
  rw[h6]
  go_wp2_with fail
  go_ret
  exact⟨Ze dH.o.symm,bZ.o⟩
 rw[h6,Bool.true_and] at HV
 rw[h6]
 clear h6
 go_wp2_with (go_at_call 48;fail)
 go_at_call 48
 refine (bf _ _ _ _).mono ?_
 rintro e w' ⟨rfl,rfl⟩
 rcases yL (Zw s.pipe 0 1048576) with h7 | h7
 rotate_left
 ·have dH:Y0 (mE s=false):=by unfold Y0;rw[HV.o,h7];rfl
  rw[h7]
  go_wp2_with fail
  go_ret
  exact⟨Ze dH.o.symm,bZ.o⟩
 rw[h7,Bool.true_and] at HV
 rw[h7]
 clear h7
 go_wp2_with (go_at_call 48;fail)
 go_at_call 48
 refine (bf _ _ _ _).mono ?_
 rintro e w' ⟨rfl,rfl⟩
 rcases yL (Zw s.arbor 0 1048576) with h8 | h8
 rotate_left
 ·have dH:Y0 (mE s=false):=by unfold Y0;rw[HV.o,h8];rfl
  rw[h8]
  go_wp2_with fail
  go_ret
  exact⟨Ze dH.o.symm,bZ.o⟩
 rw[h8,Bool.true_and] at HV
 rw[h8]
 clear h8
 go_wp2_with (go_at_call 48;fail)
 go_at_call 48
 refine (bf _ _ _ _).mono ?_
 rintro e w' ⟨rfl,rfl⟩
 rcases yL (Zw s.purch 1 2) with h9 | h9
 rotate_left
 ·have dH:Y0 (mE s=false):=by unfold Y0;rw[HV.o,h9];rfl
  rw[h9]
  go_wp2_with fail
  go_ret
  exact⟨Ze dH.o.symm,bZ.o⟩
 rw[h9,Bool.true_and] at HV
 rw[h9]
 clear h9
 go_wp2_with (go_at_call 48;fail)
 go_at_call 48
 refine (bf _ _ _ _).mono ?_
 rintro e w' ⟨rfl,rfl⟩
 rcases yL (Zw s.most 1 67108864) with vC | vC
 rotate_left
 ·have dH:Y0 (mE s=false):=by unfold Y0;rw[HV.o,vC];rfl
  rw[vC]
  go_wp2_with fail
  go_ret
  exact⟨Ze dH.o.symm,bZ.o⟩
 rw[vC,Bool.true_and] at HV
 rw[vC]
 clear vC
 go_wp2_with (go_at_call 48;fail)
 go_at_call 48
 refine (bf _ _ _ _).mono ?_
 rintro e w' ⟨rfl,rfl⟩
 rcases yL (Zw s.brake 0 67108864) with Cz | Cz
 rotate_left
 ·have dH:Y0 (mE s=false):=by unfold Y0;rw[HV.o,Cz];rfl
  rw[Cz]
  go_wp2_with fail
  go_ret
  exact⟨Ze dH.o.symm,bZ.o⟩
 rw[Cz,Bool.true_and] at HV
 rw[Cz]
 clear Cz
 go_wp2_with fail
 clear z0 z1 z2 z3 z6 z7 z8 z9 jg fc htm vr dz
 go_loopw [3] (fun x wr=>∃ k:Nat,k≤s.lines.length∧x = .int .i64 k∧Y0 (iI (oC s.lines s.len) k=true)∧∃ q,wr=W1.drewN q) (fun x _=>s.lines.length-(intOf x).toNat)
 case atStart=>exact⟨0,yI _,rfl,lS _,0,rfl⟩
 obtain⟨k,hk,rfl,HU,q,rfl⟩:=hrel
 by_cases aB:k<s.lines.length
 ·obtain⟨b,off,rfl,hb,hc⟩:=vn.o k aB
  have y0:=(bZ.o.cell (p:=⟨b,off+k,none⟩) hb).trans (hc k aB)
  have i1:(0:Int)≤(k:Int):=yE _
  have i2:(k:Int)<(s.lines.length:Int):=by omega
  have Cj:Y0 (oC s.lines s.len k=(Zw (jQ s.lines k) 0 s.len&&(decide (k=0)||decide (jQ s.lines (k-1)<jQ s.lines k)))):=rfl
  have mw:=zh (fun h:oC s.lines s.len k=false=>show mE s=false by rw[HV.o,rz aB h];rfl)
  have vA:=fun W=>bf (jQ s.lines k) 0 s.len W
  rcases yL (Zw (jQ s.lines k) 0 s.len) with h0 | h0
  rotate_left
  ·have dH:Y0 (mE s=false):=mw.o (by rw[Cj.o,h0];rfl)
   rw[h0] at vA
   clear h0 hc
   go_wp2
   go_quiet ((go_at_call 48;exact pD (vA _)))
   go_wp2
   go_ret
   exact⟨Ze dH.o.symm,Zf (Zf bZ.o _) _⟩
  rw[h0] at vA Cj
  clear h0
  by_cases hz:k=0
  ·have g0:decide (0<k)=false:=by rw[YE];omega
   have HU2:=zh (kC HU.o (show oC s.lines s.len k=true by rw[Cj.o,yD hz];rfl))
   clear hz hc
   go_wp2
   go_quiet ((go_at_call 48;exact pD (vA _)))
   go_wp2
   go_roundw
   case rel=>exact⟨k+1,by omega,by go_num,HU2,_,rfl⟩
   simp[intOf];omega
  have g0:decide (0<k)=true:=by rw[yO];omega
  have y1:=(bZ.o.cell (p:=⟨b,off+(k-1),none⟩) hb).trans (hc (k-1) (by omega))
  have v1:IntKind.i64.wrap ((k:Int)-1)=(k:Int)-1:=yF _ (by omega)
  have i3:((k:Int)-1).toNat=k-1:=by omega
  have i4:(0:Int)≤(k:Int)-1:=by omega
  have i5:(k:Int)-1<(s.lines.length:Int):=by omega
  rw[yC hz,Bool.false_or] at Cj
  clear hz hc
  by_cases c1:jQ s.lines k≤jQ s.lines (k-1)
  ·have d1:decide (jQ s.lines k≤jQ s.lines (k-1))=true:=yD c1
   have dH:Y0 (mE s=false):=mw.o (by rw[Cj.o,yC (by omega)];rfl)
   clear c1
   go_wp2
   go_quiet ((go_at_call 48;exact pD (vA _)))
   go_wp2
   go_ret
   exact⟨Ze dH.o.symm,Zf (Zf bZ.o _) _⟩
  have d1:decide (jQ s.lines k≤jQ s.lines (k-1))=false:=yC c1
  have HU2:=zh (kC HU.o (show oC s.lines s.len k=true by rw[Cj.o,yD (by omega)];rfl))
  clear c1
  go_wp2
  go_quiet ((go_at_call 48;exact pD (vA _)))
  go_wp2
  go_roundw
  case rel=>exact⟨k+1,by omega,by go_num,HU2,_,rfl⟩
  simp[intOf];omega
 obtain rfl:k=s.lines.length:=by omega
 have QP:Y0 (mE s=(fU s.items s.len&&dZ s.bricks)):=by unfold Y0;rw[HV.o,HU.o,Bool.true_and]
 have HBq:=zh (Zf bZ.o q)
 have F1:=zh (HD.o.drewN q)
 clear HV HU z4 z5 gU bZ HD
 generalize W1.drewN q=W2 at *
 have hit:=HIt.o tU.o _ HBq.o
 have z0:=F1.o.cell 0;have z1:=F1.o.cell 1;have z2:=F1.o.cell 2;have z3:=F1.o.cell 3;have z4:=F1.o.cell 4;have z5:=F1.o.cell 5;have z6:=F1.o.cell 6;have z7:=F1.o.cell 7;have z8:=F1.o.cell 8;have z9:=F1.o.cell 9;have jg:=F1.o.cell 10;have fc:=F1.o.cell 11;have gU:=F1.o.cell 12
 simp only[aP,aQ,aO] at z0 z1 z2 z3 z4 z5 z6 z7 z8 z9 jg fc gU
 go_wp2_with (go_at_call 49;fail)
 go_at_call 49
 refine hit.mono ?_
 rintro e w3 ⟨rfl,cO⟩
 have bY:=zh (HBq.o.trans (cO.mono HBq.o.size))
 have iD:=zh (F1.o.below cO F1.o.lt)
 clear hit cO HBq F1 z0 z1 z2 z3 z4 z5 z6 z7 z8 z9 jg fc gU
 have gU:=iD.o.cell 12
 simp only[aP,aQ,aO] at gU
 have hbr:=vqB.o _ bY.o
 rcases yL (fU s.items s.len) with h1 | h1
 rotate_left
 ·rw[h1] at QP ⊢
  go_wp2_with fail
  go_ret
  exact⟨Ze QP.o.symm,bY.o⟩
 rw[h1,Bool.true_and] at QP
 rw[h1]
 go_wp2_with (go_at_call 50;refine hbr.mono ?_;rintro e w4 ⟨rfl,q4,rfl⟩)
 go_ret
 exact⟨Ze QP.o.symm,Zf bY.o _⟩
end Go.Proofs.YtfhmbechennkbaaGreatDoor
