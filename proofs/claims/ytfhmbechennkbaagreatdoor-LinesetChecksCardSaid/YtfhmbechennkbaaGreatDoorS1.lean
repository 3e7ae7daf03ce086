/- Parts of the proof, laid into one text: RefSetA, RefSetQ, RefSetP, RefSetB, RefSetC, RefSetV. -/
import Derived.Test.YtfhmbechennkbaaGreatDoorC1
import Derived.Test.YtfhmbechennkbaaGreatDoorD2
namespace Go.Proofs.YtfhmbechennkbaaGreatDoor
set_option maxRecDepth 100000
set_option maxHeartbeats 40000000
open Go.RowKit Go.Shelf
theorem refBetween21 (n lo hi:Int) (w:World):Calls Tryz.prog 48 #[.int .i64 n,.int .i64 lo,.int .i64 hi] w fun e w' => e = .returned (.bool (Zw n lo hi))∧w=w':=by
 by_cases h1:lo≤n
 ·by_cases h2:n≤hi
  all_goals
   go_enter Tryz.func48,Tryz.ntmps48
   go_wp2
   go_ret
   exact ⟨Ze (by unfold Zw;symm;simp;omega),rfl⟩
 ·have h1b:decide (lo≤n)=false:=by simpa using h1
  go_enter Tryz.func48,Tryz.ntmps48
  go_wp2
  go_ret
  exact ⟨Ze (by unfold Zw;symm;simp;omega),rfl⟩
theorem between_iff {n lo hi:Int}:Zw n lo hi=true ↔ lo≤n∧n≤hi:=by unfold Zw;rw [decide_eq_true_iff]
theorem refApart (x y:ItemT) (w:World) (hx:0≤x.pos∧x.pos≤1048576∧1≤x.width∧x.width≤1048576) (hy:0≤y.pos∧y.pos≤1048576∧1≤y.width∧y.width≤1048576) :
  Calls Tryz.prog 97 #[x.val,y.val] w fun e w' => e = .returned (.bool (apartB x y))∧Below w.heap.size w w':=by
 have HB:Hid (Below w.heap.size w ((w.alloc (.cells #[.string x.name,.int .i64 x.pos,.int .i64 x.width,.int .i64 x.wt,.int .i64 x.hang,.int .i64 x.front,.int .i64 x.back] 118)).alloc (.cells #[.string y.name,.int .i64 y.pos,.int .i64 y.width,.int .i64 y.wt,.int .i64 y.hang,.int .i64 y.front,.int .i64 y.back] 118))):=((Below.refl _ _).alloc (Nat.le_refl _) _).alloc (by simp) _
 have HV:Hid (apartB x y=(decide (x.pos+x.width≤y.pos) || decide (y.pos+y.width≤x.pos))):=rfl
 obtain ⟨xn,xp,xw,x3,x4,x5,x6⟩:=x
 obtain ⟨yn,yp,yw,y3,y4,y5,y6⟩:=y
 simp only at *
 have v1:IntKind.i64.wrap (xp+xw)=xp+xw:=IntWalk.i64_in _ (by omega)
 have v2:IntKind.i64.wrap (yp+yw)=yp+yw:=IntWalk.i64_in _ (by omega)
 clear hx hy
 by_cases h1:xp+xw≤yp
 ·have d1:decide (xp+xw≤yp)=true:=decide_eq_true h1
  go_enter Tryz.func97,Tryz.ntmps97
  go_wp2_with fail
  go_ret
  exact ⟨Ze (by rw [HV.out,d1];rfl),HB.out⟩
 ·have d1:decide (xp+xw≤yp)=false:=decide_eq_false h1
  go_enter Tryz.func97,Tryz.ntmps97
  go_wp2_with fail
  go_ret
  exact ⟨Ze (by rw [HV.out,d1];rfl),HB.out⟩
theorem aloneR_eq {x:ItemT} {len:Int}:(nameB x.name && (Zw x.width 1 1048576 && (Zw x.pos 0 (len-x.width) && (Zw x.wt 0 1048576 && (Zw x.hang 0 1048576 && (Zw x.front 0 1048576 && Zw x.back 0 1048576))))))=(alone1 x && inside1 x len):=by
 have e:Zw x.pos 0 (len-x.width)=(decide (0≤x.pos) && decide (x.pos≤len-x.width)):=by unfold Zw;rw [Bool.decide_and]
 unfold alone1 inside1
 rw [e]
 generalize nameB x.name=a0
 generalize Zw x.width 1 1048576=a1
 generalize decide (0≤x.pos)=a2
 generalize decide (x.pos≤len-x.width)=a3
 generalize Zw x.wt 0 1048576=a4
 generalize Zw x.hang 0 1048576=a5
 generalize Zw x.front 0 1048576=a6
 generalize Zw x.back 0 1048576=a7
 revert a0 a1 a2 a3 a4 a5 a6 a7
 decide
theorem refAlone (x:ItemT) (len:Int) (w:World) (hn:x.name.size≤maxLen) (hl:1000≤len∧len≤1048576) :
  Calls Tryz.prog 96 #[x.val,.int .i64 len] w fun e w' => e = .returned (.bool (alone1 x && inside1 x len))∧Below w.heap.size w w':=by
 have HB:Hid (Below w.heap.size w (w.alloc (.cells #[.string x.name,.int .i64 x.pos,.int .i64 x.width,.int .i64 x.wt,.int .i64 x.hang,.int .i64 x.front,.int .i64 x.back] 118))):=(Below.refl _ _).alloc (Nat.le_refl _) _
 have hnm:=fun W => refIsName x.name hn W
 rw [← aloneR_eq]
 obtain ⟨xn,xp,xw,x3,x4,x5,x6⟩:=x
 simp only at *
 have Hl:=zh hl
 clear hn hl
 generalize hres:(nameB xn && (Zw xw 1 1048576 && (Zw xp 0 (len-xw) && (Zw x3 0 1048576 && (Zw x4 0 1048576 && (Zw x5 0 1048576 && Zw x6 0 1048576))))))=res
 have HR:=zh hres
 clear hres
 go_enter Tryz.func96,Tryz.ntmps96
 go_wp2_with (go_at_call 47;fail)
 go_at_call 47
 refine (hnm _).mono ?_
 rintro e w' ⟨rfl,rfl⟩
 rcases Bool.eq_false_or_eq_true (nameB xn) with h0 | h0
 rotate_left
 ·rw [h0] at HR ⊢
  go_wp2_with fail
  go_ret
  exact ⟨Ze HR.out,HB.out⟩
 rw [h0] at HR ⊢
 clear h0
 go_wp2_with (go_at_call 48;fail)
 go_at_call 48
 refine (refBetween21 _ _ _ _).mono ?_
 rintro e w' ⟨rfl,rfl⟩
 rcases Bool.eq_false_or_eq_true (Zw xw 1 1048576) with h1 | h1
 rotate_left
 ·rw [h1] at HR ⊢
  go_wp2_with fail
  go_ret
  exact ⟨Ze HR.out,HB.out⟩
 rw [h1] at HR ⊢
 have hwb:=Zh h1
 have v1:IntKind.i64.wrap (len-xw)=len-xw:=IntWalk.i64_in _ (by have:=Hl.out;omega)
 clear hwb
 clear h1
 go_wp2_with (go_at_call 48;fail)
 go_at_call 48
 refine (refBetween21 _ _ _ _).mono ?_
 rintro e w' ⟨rfl,rfl⟩
 rcases Bool.eq_false_or_eq_true (Zw xp 0 (len-xw)) with h2 | h2
 rotate_left
 ·rw [h2] at HR ⊢
  go_wp2_with fail
  go_ret
  exact ⟨Ze HR.out,HB.out⟩
 rw [h2] at HR ⊢
 clear h2
 go_wp2_with (go_at_call 48;fail)
 go_at_call 48
 refine (refBetween21 _ _ _ _).mono ?_
 rintro e w' ⟨rfl,rfl⟩
 rcases Bool.eq_false_or_eq_true (Zw x3 0 1048576) with h3 | h3
 rotate_left
 ·rw [h3] at HR ⊢
  go_wp2_with fail
  go_ret
  exact ⟨Ze HR.out,HB.out⟩
 rw [h3] at HR ⊢
 clear h3
 go_wp2_with (go_at_call 48;fail)
 go_at_call 48
 refine (refBetween21 _ _ _ _).mono ?_
 rintro e w' ⟨rfl,rfl⟩
 rcases Bool.eq_false_or_eq_true (Zw x4 0 1048576) with h4 | h4
 rotate_left
 ·rw [h4] at HR ⊢
  go_wp2_with fail
  go_ret
  exact ⟨Ze HR.out,HB.out⟩
 rw [h4] at HR ⊢
 clear h4
 go_wp2_with (go_at_call 48;fail)
 go_at_call 48
 refine (refBetween21 _ _ _ _).mono ?_
 rintro e w' ⟨rfl,rfl⟩
 rcases Bool.eq_false_or_eq_true (Zw x5 0 1048576) with h5 | h5
 rotate_left
 ·rw [h5] at HR ⊢
  go_wp2_with fail
  go_ret
  exact ⟨Ze HR.out,HB.out⟩
 rw [h5] at HR ⊢
 clear h5
 go_wp2_with (go_at_call 48;fail)
 go_at_call 48
 refine (refBetween21 _ _ _ _).mono ?_
 rintro e w' ⟨rfl,rfl⟩
 have HR2:=zh HR.out
 go_wp2_with fail
 go_ret
 exact ⟨Ze HR.out,HB.out⟩
theorem dnam_all (L : List ByteArray) : ∀ n,dnam L n = n ↔ ∀ i,i < n → L.getD i default ∉ L.take i
 | 0 => by simp [dnam]
 | n+1 => by
  have ih:=dnam_all L n
  have hle:=dnam_le L n
  rw [dnam]
  by_cases hm:L.getD n default ∈ L.take n
  ·rw [if_pos hm]
   constructor
   ·intro h;omega
   ·intro h;exact absurd hm (h n (by omega))
  ·rw [if_neg hm]
   constructor
   ·intro h i hi
    rcases Nat.lt_succ_iff_lt_or_eq.1 hi with h2 | rfl
    ·exact ih.1 (by omega) i h2
    ·exact hm
   ·intro h
    rw [ih.2 fun i hi => h i (by omega)]
theorem twice_no {α:Type} (f:α→ByteArray) (l:List α):twiceB (l.map f)=false ↔ ∀ i j (hi:i<l.length) (hj:j<l.length),j<i→f l[j]≠f l[i]:=by
 unfold twiceB
 rw [decide_eq_false_iff_not]
 have hle:=dnam_le (l.map f) (l.map f).length
 have h1:=dnam_all (l.map f) (l.map f).length
 have hg:∀ i (hi:i<l.length),(l.map f).getD i default=f l[i]:=fun i hi => by
  rw [List.getD_eq_getElem?_getD,List.getElem?_map,List.getElem?_eq_getElem hi];rfl
 constructor
 ·intro h i j hi hj hji e
  have h2:=h1.1 (by omega) i (by rw [List.length_map];exact hi)
  rw [hg i hi] at h2
  refine h2 ?_
  rw [← e,List.mem_take_iff_getElem]
  exact ⟨j,by rw [List.length_map];omega,by rw [List.getElem_map]⟩
 ·intro h
  have h2:=h1.2 fun i hi => by
   rw [List.length_map] at hi
   rw [hg i hi]
   intro hm
   rw [List.mem_take_iff_getElem] at hm
   obtain ⟨j,hj,e⟩:=hm
   rw [List.length_map] at hj
   rw [List.getElem_map] at e
   exact h i j hi (by omega) (by omega) e
  omega
def it0:ItemT:=⟨⟨#[]⟩,0,0,0,0,0,0⟩
def br0:BrickT:=⟨⟨#[]⟩,0,0⟩
def itAt (l:List ItemT) (i:Nat):ItemT:=l.getD i it0
def brAt (l:List BrickT) (i:Nat):BrickT:=l.getD i br0
theorem itAt_eq {l:List ItemT} {i:Nat} (h:i<l.length):itAt l i=l[i]:=by unfold itAt;rw [List.getD_eq_getElem?_getD,List.getElem?_eq_getElem h];rfl
theorem brAt_eq {l:List BrickT} {i:Nat} (h:i<l.length):brAt l i=l[i]:=by unfold brAt;rw [List.getD_eq_getElem?_getD,List.getElem?_eq_getElem h];rfl
def pairR (l:List ItemT) (k j:Nat):Bool:=!decide ((itAt l j).name=(itAt l k).name) && apartB (itAt l j) (itAt l k)
def itGoodR (l:List ItemT) (len:Int) (k:Nat):Bool:=(alone1 (itAt l k) && inside1 (itAt l k) len) && upto (pairR l k) k
def itemsR (l:List ItemT) (len:Int):Bool:=decide (l.length≤40) && upto (itGoodR l len) l.length
theorem apartB_comm (x y:ItemT):apartB x y=apartB y x:=by unfold apartB;rw [Bool.or_comm]
theorem itemsR_eq (l:List ItemT) (len:Int):itemsR l len=itemsB l len:=by
 have hR:itemsR l len=true ↔ l.length≤40∧∀ k (hk:k<l.length),(alone1 l[k]=true∧inside1 l[k] len=true)∧∀ j (hj:j<k),l[j].name≠l[k].name∧apartB l[j] l[k]=true:=by
  unfold itemsR
  rw [Bool.and_eq_true,decide_eq_true_iff,upto_iff]
  refine and_congr_right fun _ => ?_
  constructor
  ·intro h k hk
   have:=h k hk
   unfold itGoodR at this
   rw [itAt_eq hk,Bool.and_eq_true,Bool.and_eq_true,upto_iff] at this
   refine ⟨this.1,fun j hj => ?_⟩
   have h2:=this.2 j hj
   unfold pairR at h2
   rw [itAt_eq hk,itAt_eq (show j<l.length by omega),Bool.and_eq_true,Bool.not_eq_true',decide_eq_false_iff_not] at h2
   exact h2
  ·intro h k hk
   unfold itGoodR
   rw [itAt_eq hk,Bool.and_eq_true,Bool.and_eq_true,upto_iff]
   refine ⟨(h k hk).1,fun j hj => ?_⟩
   unfold pairR
   rw [itAt_eq hk,itAt_eq (show j<l.length by omega),Bool.and_eq_true,Bool.not_eq_true',decide_eq_false_iff_not]
   exact (h k hk).2 j hj
 have hB:itemsB l len=true ↔ l.length≤40∧∀ k (hk:k<l.length),(alone1 l[k]=true∧inside1 l[k] len=true)∧∀ j (hj:j<k),l[j].name≠l[k].name∧apartB l[j] l[k]=true:=by
  unfold itemsB itTo
  rw [Bool.and_eq_true,Bool.and_eq_true,decide_eq_true_iff,Bool.not_eq_true',twice_no,decide_eq_true_iff]
  refine and_congr_right fun _ => ?_
  constructor
  ·rintro ⟨h1,h2⟩ k hk
   have h3:=h2 k hk
   rw [itGood_eq hk,Bool.and_eq_true,Bool.and_eq_true,Bool.not_eq_true',List.any_eq_false] at h3
   refine ⟨⟨h3.1,h3.2.1⟩,fun j hj => ⟨h1 k j hk (by omega) hj,?_⟩⟩
   have:=h3.2.2 l[j] (by rw [List.mem_take_iff_getElem];exact ⟨j,by omega,rfl⟩)
   rw [apartB_comm]
   simpa using this
  ·intro h
   refine ⟨fun i j hi hj hji => ((h i hi).2 j hji).1,fun k hk => ?_⟩
   rw [itGood_eq hk,Bool.and_eq_true,Bool.and_eq_true,Bool.not_eq_true',List.any_eq_false]
   refine ⟨(h k hk).1.1,(h k hk).1.2,fun y hy => ?_⟩
   rw [List.mem_take_iff_getElem] at hy
   obtain ⟨j,hj,rfl⟩:=hy
   rw [apartB_comm,((h k hk).2 j (by omega)).2]
   simp
 rw [Bool.eq_iff_iff,hR,hB]
def nameR (l:List BrickT) (k j:Nat):Bool:=!decide ((brAt l j).name=(brAt l k).name)
def brGoodR (l:List BrickT) (k:Nat):Bool:=brickB (brAt l k) && upto (nameR l k) k
def bricksR (l:List BrickT):Bool:=decide (l.length≤8) && (upto (brGoodR l) l.length && decide (cntTo l l.length≤60))
theorem bricksR_eq (l:List BrickT):bricksR l=bricksB l:=by
 have h1:upto (brGoodR l) l.length=(!twiceB (l.map BrickT.name) && l.all brickB):=by
  rw [Bool.eq_iff_iff,Bool.and_eq_true,Bool.not_eq_true',twice_no,upto_iff,List.all_eq_true]
  constructor
  ·intro h
   have h2:∀ k (hk:k<l.length),brickB l[k]=true∧∀ j (hj:j<k),l[j].name≠l[k].name:=fun k hk => by
    have:=h k hk
    unfold brGoodR at this
    rw [brAt_eq hk,Bool.and_eq_true,upto_iff] at this
    refine ⟨this.1,fun j hj => ?_⟩
    have h3:=this.2 j hj
    unfold nameR at h3
    rw [brAt_eq hk,brAt_eq (show j<l.length by omega),Bool.not_eq_true',decide_eq_false_iff_not] at h3
    exact h3
   refine ⟨fun i j hi hj hji => (h2 i hi).2 j hji,fun x hx => ?_⟩
   obtain ⟨i,hi,rfl⟩:=List.getElem_of_mem hx
   exact (h2 i hi).1
  ·rintro ⟨h2,h3⟩ k hk
   unfold brGoodR
   rw [brAt_eq hk,Bool.and_eq_true,upto_iff]
   refine ⟨h3 _ (List.getElem_mem hk),fun j hj => ?_⟩
   unfold nameR
   rw [brAt_eq hk,brAt_eq (show j<l.length by omega),Bool.not_eq_true',decide_eq_false_iff_not]
   exact h2 k j hk (by omega) hj
 unfold bricksR bricksB
 rw [h1,Bool.and_assoc]
def lineR (l:List Int) (len:Int) (i:Nat):Bool:=Zw (atL l i) 0 len && (decide (i=0) || decide (atL l (i-1)<atL l i))
theorem lines_mono {l:List Int} {n:Nat} (h:incTo l n=true):∀ i j, i≤j→j<n→atL l i≤atL l j:=by
  unfold incTo at h
  rw [decide_eq_true_iff] at h
  intro i j hij
  induction j with
  | zero => intro _; obtain rfl : i = 0 := by omega
            exact Int.le_refl _
  | succ j ih =>
    intro hj
    rcases Nat.lt_or_ge j i with h1 | h1
    · obtain rfl:i=j+1:=by omega
      exact Int.le_refl _
    · have h2:=ih h1 (by omega)
      have h3:=h (j+1) hj (by omega)
      rw [Nat.add_sub_cancel] at h3
      omega
theorem linesR_eq (l:List Int) (len:Int):(Zw (l.length:Int) 2 10 && upto (lineR l len) l.length)=linesB l len:=by
 rw [Bool.eq_iff_iff]
 unfold linesB
 rw [Bool.and_eq_true,Bool.and_eq_true,Bool.and_eq_true,Bool.and_eq_true]
 refine and_congr_right fun h0 => ?_
 have h0':=Zh h0
 rw [upto_iff,Bool.not_eq_true',Bool.not_eq_true',decide_eq_false_iff_not,decide_eq_false_iff_not]
 constructor
 ·intro h
  have h1:∀ i,i<l.length→(0≤atL l i∧atL l i≤len)∧(i=0∨atL l (i-1)<atL l i):=fun i hi => by
   have:=h i hi
   unfold lineR at this
   rw [Bool.and_eq_true,Bool.or_eq_true,decide_eq_true_iff,decide_eq_true_iff,between_iff] at this
   exact this
  refine ⟨?_,?_,?_⟩
  ·have:=(h1 0 (by omega)).1;omega
  ·have:=(h1 (l.length-1) (by omega)).1;omega
  ·unfold incTo
   rw [decide_eq_true_iff]
   intro i hi h2
   rcases (h1 i hi).2 with h3 | h3
   ·omega
   ·exact h3
 ·rintro ⟨h1,h2,h3⟩ i hi
  have m1:=lines_mono h3 0 i (by omega) hi
  have m2:=lines_mono h3 i (l.length-1) (by omega) (by omega)
  unfold lineR
  rw [Bool.and_eq_true,Bool.or_eq_true,decide_eq_true_iff,decide_eq_true_iff,between_iff]
  refine ⟨⟨by omega,by omega⟩,?_⟩
  by_cases hz:i=0
  ·exact .inl hz
  ·unfold incTo at h3
   rw [decide_eq_true_iff] at h3
   exact .inr (h3 i hi (by omega))
def setR (s:SetT):Bool :=
 nameB s.name && (Zw s.depth 0 1048576 && (Zw s.low 0 s.high && (Zw s.high 0 1048576 && (Zw s.len 1000 1048576 && ((s.len % 1000 == 0) && (Zw (s.lines.length:Int) 2 10 && (Zw s.pipe 0 1048576 && (Zw s.arbor 0 1048576 && (Zw s.purch 1 2 && (Zw s.most 1 67108864 && (Zw s.brake 0 67108864 && (upto (lineR s.lines s.len) s.lines.length && (itemsR s.items s.len && bricksR s.bricks)))))))))))))
theorem setR_eq (s:SetT):setR s=setB s:=by
 unfold setR setB
 rw [itemsR_eq,bricksR_eq,← linesR_eq]
 have e1:Zw s.low 0 s.high=(decide (0≤s.low) && decide (s.low≤s.high)):=by unfold Zw;rw [Bool.decide_and]
 rw [e1]
 have e2:(decide (0≤s.low) && (decide (s.low≤s.high) && Zw s.high 0 1048576))=(decide (0≤s.low) && (decide (s.low≤s.high) && decide (s.high≤1048576))):=by
  rw [Bool.eq_iff_iff]
  simp only [Bool.and_eq_true,decide_eq_true_eq,between_iff]
  omega
 generalize nameB s.name=a0
 generalize Zw s.depth 0 1048576=a1
 generalize decide (0≤s.low)=a2 at *
 generalize decide (s.low≤s.high)=a3 at *
 generalize Zw s.high 0 1048576=a4 at *
 generalize decide (s.high≤1048576)=a5 at *
 generalize (Zw s.len 1000 1048576)=a6
 generalize (s.len % 1000 == 0)=a7
 generalize Zw (s.lines.length:Int) 2 10=a8
 generalize upto (lineR s.lines s.len) s.lines.length=a9
 generalize Zw s.pipe 0 1048576=b0
 generalize Zw s.arbor 0 1048576=b1
 generalize Zw s.purch 1 2=b2
 generalize Zw s.most 1 67108864=b3
 generalize Zw s.brake 0 67108864=b4
 generalize itemsB s.items s.len=b5
 generalize bricksB s.bricks=b6
 have e3:∀ x,(a2 && (a3 && (a4 && x)))=(a2 && (a3 && (a5 && x))):=fun x => by
  have:=congrArg (fun y => y && x) e2
  simpa only [Bool.and_assoc] using this
 simp only [Bool.and_assoc]
 rw [e3]
 cases a0 <;> cases a1 <;> cases a2 <;> cases a3 <;> cases a5 <;> cases a6 <;> cases a7 <;> cases a8 <;> simp only [Bool.false_and,Bool.and_false,Bool.true_and]
 rw [Bool.and_left_comm a9 b0,Bool.and_left_comm a9 b1,Bool.and_left_comm a9 b2,Bool.and_left_comm a9 b3,Bool.and_left_comm a9 b4]
theorem itemsR_no {l:List ItemT} {len:Int} {k:Nat} (hk:k<l.length) (h:itGoodR l len k=false):itemsR l len=false:=by
 unfold itemsR
 rw [upto_no hk h,Bool.and_false]
theorem itGoodR_one {l:List ItemT} {len:Int} {k:Nat} (hk:k<l.length) (h:(alone1 l[k] && inside1 l[k] len)=false):itGoodR l len k=false:=by
 unfold itGoodR
 rw [itAt_eq hk,h,Bool.false_and]
theorem itGoodR_two {l:List ItemT} {len:Int} {k j:Nat} (hj:j<k) (h:pairR l k j=false):itGoodR l len k=false:=by
 unfold itGoodR
 rw [upto_no hj h,Bool.and_false]
theorem itGoodR_pos {l:List ItemT} {len:Int} {k:Nat} (hk:k<l.length) (h:(alone1 l[k] && inside1 l[k] len)=true) (hl:len≤1048576):PosOk l[k]:=by
 rw [Bool.and_eq_true] at h
 exact inside_pos h.2 hl
theorem pairR_eq {l:List ItemT} {k j:Nat} (hk:k<l.length) (hj:j<l.length):pairR l k j=(!decide (l[j].name=l[k].name) && apartB l[j] l[k]):=by
 unfold pairR
 rw [itAt_eq hk,itAt_eq hj]
theorem uptoR_pos {l:List ItemT} {len:Int} {k j:Nat} (h:upto (itGoodR l len) k=true) (hj:j<k) (hk:k≤l.length) (hl:len≤1048576):PosOk (l[j]'(by omega)):=by
 have:=upto_at h hj
 unfold itGoodR at this
 rw [itAt_eq (show j<l.length by omega),Bool.and_eq_true] at this
 exact itGoodR_pos (by omega) this.1 hl
theorem refItems (v:Value) (s:SetT) (w:World) (hv:SetAt w w.heap.size v s) (hn:∀ x ∈ s.items,x.name.size≤maxLen) (hlen:1000≤s.len∧s.len≤1048576) :
  Calls Tryz.prog 49 #[v] w fun e w' => e = .returned (.bool (itemsR s.items s.len))∧Below w.heap.size w w':=by
 obtain ⟨Al,cl,Ai,ci,Ab,cb,rfl,hL,hI,hB⟩:=hv
 obtain ⟨_,_,e,hi1,hi2,hic⟩:=hI.open_
 injection e with e1 _ e2
 subst e1 e2
 have HI:=zh hic
 have HN:=zh hn
 have HLen:=zh hlen
 have HD:=zh (Blk.new w 26 #[.string s.name,.int .i64 s.depth,.int .i64 s.low,.int .i64 s.high,.int .i64 s.len,.slice Al s.lines.length cl,.int .i64 s.pipe,.int .i64 s.arbor,.int .i64 s.purch,.int .i64 s.most,.int .i64 s.brake,.slice Ai s.items.length ci,.slice Ab s.bricks.length cb])
 have HB1:=zh ((Below.refl _ w).alloc (Nat.le_refl _) (.cells #[.string s.name,.int .i64 s.depth,.int .i64 s.low,.int .i64 s.high,.int .i64 s.len,.slice Al s.lines.length cl,.int .i64 s.pipe,.int .i64 s.arbor,.int .i64 s.purch,.int .i64 s.most,.int .i64 s.brake,.slice Ai s.items.length ci,.slice Ab s.bricks.length cb] 26))
 unfold maxLen at hi2
 unfold setVal
 clear hL hI hB hic hn hlen
 by_cases c0:40<(s.items.length:Int)
 ·have d0:decide (40<(s.items.length:Int))=true:=decide_eq_true c0
  have HV:Hid (itemsR s.items s.len=false):=by unfold Hid itemsR;rw [decide_eq_false (show ¬ s.items.length≤40 by omega)];rfl
  go_enter Tryz.func49,Tryz.ntmps49
  go_wp2
  go_ret
  exact ⟨Ze HV.out.symm,HB1.out⟩
 have d0:decide (40<(s.items.length:Int))=false:=decide_eq_false c0
 have HV:Hid (itemsR s.items s.len=upto (itGoodR s.items s.len) s.items.length):=by unfold Hid itemsR;rw [decide_eq_true (show s.items.length≤40 by omega)];rfl
 go_enter Tryz.func49,Tryz.ntmps49
 go_wp2
 generalize w.alloc (.cells #[.string s.name,.int .i64 s.depth,.int .i64 s.low,.int .i64 s.high,.int .i64 s.len,.slice Al s.lines.length cl,.int .i64 s.pipe,.int .i64 s.arbor,.int .i64 s.purch,.int .i64 s.most,.int .i64 s.brake,.slice Ai s.items.length ci,.slice Ab s.bricks.length cb] 26)=W1 at *
 go_loopw [3] (fun x wr => ∃ k:Nat,k≤s.items.length∧x = .int .i64 k∧Hid (upto (itGoodR s.items s.len) k=true)∧Below W1.heap.size W1 wr) (fun x _ => s.items.length-(intOf x).toNat)
 case atStart => exact ⟨0,Nat.zero_le _,rfl,upto_zero _,Below.refl _ _⟩
 case round =>
  obtain ⟨k,hk,rfl,HU,hbel⟩:=hrel
  have HDr:=zh (HD.out.below hbel HD.out.lt)
  have hbw:=HB1.out.trans (hbel.mono HB1.out.size)
  have z11:=HDr.out.cell 11
  have z4:=HDr.out.cell 4
  simp only [zq1,zq2,zq3] at z11 z4
  by_cases hkl:k<s.items.length
  ·obtain ⟨b,off,rfl,hb,hc⟩:=HI.out k hkl
   have HC:=zh hc
   clear hc
   have i1:(0:Int)≤(k:Int):=Int.natCast_nonneg _
   have i2:(k:Int)<(s.items.length:Int):=by omega
   go_wp2
   have hc:=HC.out
   have y0:=HeldB.cell ((hbw.cell (p:=⟨b,off+k*7,none⟩) hb).trans (hc k hkl).1)
   have y1:=HeldB.cell ((hbw.cell (p:=⟨b,off+k*7+1,none⟩) hb).trans (hc k hkl).2.1)
   have y2:=HeldB.cell ((hbw.cell (p:=⟨b,off+k*7+2,none⟩) hb).trans (hc k hkl).2.2.1)
   have y3:=HeldB.cell ((hbw.cell (p:=⟨b,off+k*7+3,none⟩) hb).trans (hc k hkl).2.2.2.1)
   have y4:=HeldB.cell ((hbw.cell (p:=⟨b,off+k*7+4,none⟩) hb).trans (hc k hkl).2.2.2.2.1)
   have y5:=HeldB.cell ((hbw.cell (p:=⟨b,off+k*7+5,none⟩) hb).trans (hc k hkl).2.2.2.2.2.1)
   have y6:=HeldB.cell ((hbw.cell (p:=⟨b,off+k*7+6,none⟩) hb).trans (hc k hkl).2.2.2.2.2.2)
   have x4:=HeldB.cell z4
   have x11:=HeldB.cell z11
   have hal0:=fun (w':World) (_:Below wr.heap.size wr w') => refAlone s.items[k] s.len w' (HN.out _ (List.getElem_mem hkl)) HLen.out
   have hal:=HeldB.call hal0
   clear hal0
   clear hc
   rcases Bool.eq_false_or_eq_true (alone1 s.items[k] && inside1 s.items[k] s.len) with h1 | h1
   rotate_left
   ·have HV2:Hid (itemsR s.items s.len=false):=itemsR_no hkl (itGoodR_one hkl h1)
    rw [h1] at hal
    clear h1
    refine wp_region_heldb (by kernel_rfl) (by kernel_rfl) ?_
    repeat (go_big_quiet_step ((go_at_call 96;exact hal _)))
    refine wpQuiet_nil ?_
    rintro w5 ⟨⟨w6,hb5⟩,rfl⟩
    go_wp2_with fail
    go_ret
    exact ⟨Ze HV2.out.symm,hbw.trans (hb5.mono hbw.size)⟩
   have HP:=zh (itGoodR_pos hkl h1 HLen.out.2)
   have HOne:=zh h1
   rw [h1] at hal
   clear h1
   refine wp_region_heldb (by kernel_rfl) (by kernel_rfl) ?_
   repeat (go_big_quiet_step ((go_at_call 96;exact hal _)))
   refine wpQuiet_nil ?_
   rintro w5 ⟨⟨w6,hb5⟩,rfl⟩
   clear y0 y1 y2 y3 y4 y5 y6 x4 x11 hal z4 z11
   have hbw5:=hbw.trans (hb5.mono hbw.size)
   have HD5:=zh (HDr.out.below hb5 HDr.out.lt)
   have hb15:=hbel.trans (hb5.mono hbel.size)
   clear hb5
   go_wp2_with fail
   go_loopw [4] (fun x wi => ∃ j:Nat,j≤k∧x = .int .i64 j∧Hid (upto (pairR s.items k) j=true)∧Below w5.heap.size w5 wi) (fun x _ => k-(intOf x).toNat)
   case atStart => exact ⟨0,Nat.zero_le _,rfl,upto_zero _,Below.refl _ _⟩
   case round =>
    obtain ⟨j,hj,rfl,HU2,hbi⟩:=hrel
    have HDi:=zh (HD5.out.below hbi HD5.out.lt)
    have hbw6:=hbw5.trans (hbi.mono hbw5.size)
    have z11:=HDi.out.cell 11
    simp only [zq1,zq2,zq3] at z11
    by_cases hjk:j<k
    ·have hjl:j<s.items.length:=by omega
     have j1:(0:Int)≤(j:Int):=Int.natCast_nonneg _
     have j2:(j:Int)<(s.items.length:Int):=by omega
     go_wp2
     have hc:=HC.out
     have y0:=HeldB.cell ((hbw6.cell (p:=⟨b,off+k*7,none⟩) hb).trans (hc k hkl).1)
     have y1:=HeldB.cell ((hbw6.cell (p:=⟨b,off+k*7+1,none⟩) hb).trans (hc k hkl).2.1)
     have y2:=HeldB.cell ((hbw6.cell (p:=⟨b,off+k*7+2,none⟩) hb).trans (hc k hkl).2.2.1)
     have y3:=HeldB.cell ((hbw6.cell (p:=⟨b,off+k*7+3,none⟩) hb).trans (hc k hkl).2.2.2.1)
     have y4:=HeldB.cell ((hbw6.cell (p:=⟨b,off+k*7+4,none⟩) hb).trans (hc k hkl).2.2.2.2.1)
     have y5:=HeldB.cell ((hbw6.cell (p:=⟨b,off+k*7+5,none⟩) hb).trans (hc k hkl).2.2.2.2.2.1)
     have y6:=HeldB.cell ((hbw6.cell (p:=⟨b,off+k*7+6,none⟩) hb).trans (hc k hkl).2.2.2.2.2.2)
     have u0:=HeldB.cell ((hbw6.cell (p:=⟨b,off+j*7,none⟩) hb).trans (hc j hjl).1)
     have u1:=HeldB.cell ((hbw6.cell (p:=⟨b,off+j*7+1,none⟩) hb).trans (hc j hjl).2.1)
     have u2:=HeldB.cell ((hbw6.cell (p:=⟨b,off+j*7+2,none⟩) hb).trans (hc j hjl).2.2.1)
     have u3:=HeldB.cell ((hbw6.cell (p:=⟨b,off+j*7+3,none⟩) hb).trans (hc j hjl).2.2.2.1)
     have u4:=HeldB.cell ((hbw6.cell (p:=⟨b,off+j*7+4,none⟩) hb).trans (hc j hjl).2.2.2.2.1)
     have u5:=HeldB.cell ((hbw6.cell (p:=⟨b,off+j*7+5,none⟩) hb).trans (hc j hjl).2.2.2.2.2.1)
     have u6:=HeldB.cell ((hbw6.cell (p:=⟨b,off+j*7+6,none⟩) hb).trans (hc j hjl).2.2.2.2.2.2)
     have x11:=HeldB.cell z11
     have hap0:=fun (w':World) (_:Below wr.heap.size wr w') => refApart s.items[j] s.items[k] w' (uptoR_pos HU.out hjk hk HLen.out.2) HP.out
     have hap:=HeldB.call hap0
     clear hap0
     have HPq:=zh (pairR_eq hkl hjl)
     clear hc
     by_cases hq:s.items[j].name=s.items[k].name
     ·have hqb:(s.items[j].name.toList == s.items[k].name.toList)=true:=by rw [str_beq];simpa using hq
      have HV2:Hid (itemsR s.items s.len=false):=itemsR_no hkl (itGoodR_two hjk (by rw [HPq.out,decide_eq_true hq];rfl))
      clear hq hap
      refine wp_region_heldb (by kernel_rfl) (by kernel_rfl) ?_
      repeat (go_big_quiet_step (fail))
      refine wpQuiet_nil ?_
      rintro w7 ⟨⟨w8,hb7⟩,rfl⟩
      go_wp2_with fail
      go_ret
      exact ⟨Ze HV2.out.symm,hbw6.trans (hb7.mono hbw6.size)⟩
     have hqb:(s.items[j].name.toList == s.items[k].name.toList)=false:=by rw [str_beq];simpa using hq
     have HPq2:Hid (pairR s.items k j=apartB s.items[j] s.items[k]):=by unfold Hid;rw [HPq.out,decide_eq_false hq];rfl
     clear hq
     rcases Bool.eq_false_or_eq_true (apartB s.items[j] s.items[k]) with h2 | h2
     rotate_left
     ·have HV2:Hid (itemsR s.items s.len=false):=itemsR_no hkl (itGoodR_two hjk (by rw [HPq2.out,h2]))
      rw [h2] at hap
      clear h2
      refine wp_region_heldb (by kernel_rfl) (by kernel_rfl) ?_
      repeat (go_big_quiet_step ((go_at_call 97;exact hap _)))
      refine wpQuiet_nil ?_
      rintro w7 ⟨⟨w8,hb7⟩,rfl⟩
      go_wp2_with fail
      go_ret
      exact ⟨Ze HV2.out.symm,hbw6.trans (hb7.mono hbw6.size)⟩
     have HU3:=zh (upto_succ HU2.out (show pairR s.items k j=true by rw [HPq2.out,h2]))
     rw [h2] at hap
     clear h2
     refine wp_region_heldb (by kernel_rfl) (by kernel_rfl) ?_
     repeat (go_big_quiet_step ((go_at_call 97;exact hap _)))
     refine wpQuiet_nil ?_
     rintro w7 ⟨⟨w8,hb7⟩,rfl⟩
     clear y0 y1 y2 y3 y4 y5 y6 u0 u1 u2 u3 u4 u5 u6 x11 hap
     go_wp2_with fail
     go_roundw
     case rel => exact ⟨j+1,by omega,by go_num,HU3,hbi.trans (hb7.mono hbi.size)⟩
     case measure => simp [intOf];omega
    ·obtain rfl:j=k:=by omega
     have HU4:=zh (upto_succ HU.out (show itGoodR s.items s.len j=true by unfold itGoodR;rw [itAt_eq hkl,HOne.out,HU2.out];rfl))
     go_wp2_with fail
     go_roundw
     case rel => exact ⟨j+1,by omega,by go_num,HU4,hb15.trans (hbi.mono hb15.size)⟩
     case measure => simp [intOf];omega
  ·obtain rfl:k=s.items.length:=by omega
   go_wp2
   go_ret
   exact ⟨Ze (by rw [HV.out];exact HU.out.symm),hbw⟩
theorem brGoodR_one {l:List BrickT} {k:Nat} (hk:k<l.length) (h:brickB l[k]=false):brGoodR l k=false:=by
 unfold brGoodR
 rw [brAt_eq hk,h,Bool.false_and]
theorem brGoodR_two {l:List BrickT} {k j:Nat} (hj:j<k) (h:nameR l k j=false):brGoodR l k=false:=by
 unfold brGoodR
 rw [upto_no hj h,Bool.and_false]
theorem nameR_eq {l:List BrickT} {k j:Nat} (hk:k<l.length) (hj:j<l.length):nameR l k j = !decide (l[j].name=l[k].name):=by
 unfold nameR
 rw [brAt_eq hk,brAt_eq hj]
theorem bricksR_no {l:List BrickT} {k:Nat} (hk:k<l.length) (h:brGoodR l k=false):bricksR l=false:=by
 unfold bricksR
 rw [upto_no hk h,Bool.false_and,Bool.and_false]
theorem bricksR_bd {l:List BrickT} {k:Nat} (h:upto (brGoodR l) k=true) (hk:k≤l.length):0≤cntTo l k∧cntTo l k≤60*k:=by
 refine cnt_bd ?_ hk
 rw [List.all_eq_true]
 intro x hx
 rw [List.mem_take_iff_getElem] at hx
 obtain ⟨i,hi,rfl⟩:=hx
 have:=upto_at h (show i<k by omega)
 unfold brGoodR at this
 rw [brAt_eq (show i<l.length by omega),Bool.and_eq_true] at this
 exact this.1
theorem refBricks (v:Value) (l:List BrickT) (B:Nat) (w:World) (hl:BricksAt w B v l) (hn:∀ x ∈ l,x.name.size≤maxLen) :
  Calls Tryz.prog 50 #[v] w fun e w' => e = .returned (.bool (bricksR l))∧∃ q,w.drewN q=w':=by
 obtain ⟨A,c,rfl,hc1,hc2,hcell⟩:=hl.open_
 unfold maxLen at hc2
 have HC:=zh hcell
 have HN:=zh hn
 clear hl hcell hn
 by_cases c0:8<(l.length:Int)
 ·have d0:decide (8<(l.length:Int))=true:=decide_eq_true c0
  have HV:Hid (bricksR l=false):=by unfold Hid bricksR;rw [decide_eq_false (show ¬ l.length≤8 by omega)];rfl
  go_enter Tryz.func50,Tryz.ntmps50
  go_wp2
  go_ret
  exact ⟨Ze HV.out.symm,0,rfl⟩
 have d0:decide (8<(l.length:Int))=false:=decide_eq_false c0
 have HV:Hid (bricksR l=(upto (brGoodR l) l.length && decide (cntTo l l.length≤60))):=by unfold Hid bricksR;rw [decide_eq_true (show l.length≤8 by omega)];rfl
 have h8:=zh (show l.length≤8 by omega)
 go_enter Tryz.func50,Tryz.ntmps50
 go_wp2
 go_loopw [4,3] (fun x m wr => ∃ k:Nat,k≤l.length∧x = .int .i64 k∧m = .int .i64 (cntTo l k)∧Hid (upto (brGoodR l) k=true)∧∃ q,wr=w.drewN q) (fun x _ _ => l.length-(intOf x).toNat)
 case atStart => exact ⟨0,Nat.zero_le _,rfl,rfl,upto_zero _,0,rfl⟩
 case round =>
  obtain ⟨k,hk,rfl,rfl,HU,q,rfl⟩:=hrel
  by_cases hkl:k<l.length
  ·obtain ⟨b,off,rfl,hb,hc⟩:=HC.out k hkl
   have HC2:=zh hc
   have y0:=(hc k hkl).1
   have y1:=(hc k hkl).2.1
   have y2:=(hc k hkl).2.2
   have hnm:=fun W => refIsName l[k].name (HN.out _ (List.getElem_mem hkl)) W
   have HBk:Hid (brickB l[k]=(nameB l[k].name && (Zw l[k].wt 1 1048576 && Zw l[k].cnt 0 60))):=rfl
   have HNo:=zh (fun h:brickB l[k]=false => bricksR_no hkl (brGoodR_one hkl h))
   have HCn:=zh (cntTo_succ l k hkl)
   have i1:(0:Int)≤(k:Int):=Int.natCast_nonneg _
   have i2:(k:Int)<(l.length:Int):=by omega
   clear hc
   go_wp2_with (go_at_call 47;fail)
   go_at_call 47
   refine (hnm _).mono ?_
   rintro e w' ⟨rfl,rfl⟩
   rcases Bool.eq_false_or_eq_true (nameB l[k].name) with h0 | h0
   rotate_left
   ·have HV2:Hid (bricksR l=false):=HNo.out (by rw [HBk.out,h0];rfl)
    rw [h0]
    go_wp2_with fail
    go_ret
    exact ⟨Ze HV2.out.symm,_,rfl⟩
   rw [h0] at HBk ⊢
   clear h0
   go_wp2_with (go_at_call 48;fail)
   go_at_call 48
   refine (refBetween21 _ _ _ _).mono ?_
   rintro e w' ⟨rfl,rfl⟩
   rcases Bool.eq_false_or_eq_true (Zw l[k].wt 1 1048576) with h1 | h1
   rotate_left
   ·have HV2:Hid (bricksR l=false):=HNo.out (by rw [HBk.out,h1];rfl)
    rw [h1]
    go_wp2_with fail
    go_ret
    exact ⟨Ze HV2.out.symm,_,rfl⟩
   rw [h1] at HBk ⊢
   clear h1
   go_wp2_with (go_at_call 48;fail)
   go_at_call 48
   refine (refBetween21 _ _ _ _).mono ?_
   rintro e w' ⟨rfl,rfl⟩
   rcases Bool.eq_false_or_eq_true (Zw l[k].cnt 0 60) with h2 | h2
   rotate_left
   ·have HV2:Hid (bricksR l=false):=HNo.out (by rw [HBk.out,h2];rfl)
    rw [h2]
    go_wp2_with fail
    go_ret
    exact ⟨Ze HV2.out.symm,_,rfl⟩
   rw [h2] at HBk ⊢
   have hcb:=Zh h2
   have hbd:=bricksR_bd HU.out hk
   have v1:IntKind.i64.wrap (cntTo l k+l[k].cnt)=cntTo l k+l[k].cnt:=IntWalk.i64_in _ (by have:=h8.out;omega)
   have HOne:Hid (brickB l[k]=true):=by unfold Hid;rw [HBk.out];rfl
   clear h2 hcb hbd HBk
   go_wp2_with fail
   clear v1 y0 y1 y2
   generalize hQ:q=q0
   clear hQ
   go_loopw [5] (fun x wr => ∃ j:Nat,j≤k∧x = .int .i64 j∧Hid (upto (nameR l k) j=true)∧∃ q,wr=w.drewN q) (fun x _ => k-(intOf x).toNat)
   case atStart => exact ⟨0,Nat.zero_le _,rfl,upto_zero _,_,rfl⟩
   case round =>
    obtain ⟨j,hj,rfl,HU2,q1,rfl⟩:=hrel
    by_cases hjk:j<k
    ·have hjl:j<l.length:=by omega
     have y0:=(HC2.out k hkl).1
     have u0:=(HC2.out j hjl).1
     have j1:(0:Int)≤(j:Int):=Int.natCast_nonneg _
     have j2:(j:Int)<(l.length:Int):=by omega
     have HPq:=zh (nameR_eq hkl hjl)
     by_cases hq:l[j].name=l[k].name
     ·have hqb:(l[j].name.toList == l[k].name.toList)=true:=by rw [str_beq];simpa using hq
      have HV2:Hid (bricksR l=false):=bricksR_no hkl (brGoodR_two hjk (by rw [HPq.out,decide_eq_true hq];rfl))
      clear hq
      go_wp2
      go_quiet (fail)
      go_wp2
      go_ret
      exact ⟨Ze HV2.out.symm,q2⟩
     ·have hqb:(l[j].name.toList == l[k].name.toList)=false:=by rw [str_beq];simpa using hq
      have HU3:=zh (upto_succ HU2.out (show nameR l k j=true by rw [HPq.out,decide_eq_false hq];rfl))
      clear hq
      go_wp2
      go_quiet (fail)
      go_wp2
      go_roundw
      case rel => exact ⟨j+1,by omega,by go_num,HU3,_,rfl⟩
      case measure => simp [intOf];omega
    ·obtain rfl:j=k:=by omega
     have HU4:=zh (upto_succ HU.out (show brGoodR l j=true by unfold brGoodR;rw [brAt_eq hkl,HOne.out,HU2.out];rfl))
     go_wp2
     go_roundw
     case rel => exact ⟨j+1,by omega,by go_num,by rw [HCn.out],HU4,_,rfl⟩
     case measure => simp [intOf];omega
  ·obtain rfl:k=l.length:=by omega
   have HV2:Hid (bricksR l=decide (cntTo l l.length≤60)):=by unfold Hid;rw [HV.out,HU.out];rfl
   go_wp2
   go_ret
   exact ⟨Ze HV2.out.symm,_,rfl⟩
theorem lines_at {w:World} {B:Nat} {A:Option Addr} {n c:Nat} {l:List Int} (h:IntsAt w B (.slice A n c) l):n=l.length∧n≤c∧c≤maxLen∧∀ k (_:k<l.length),∃ b off,A=some ⟨b,off,none⟩∧b<B∧∀ j (_:j<l.length),w.cell? ⟨b,off+j,none⟩=some (.int .i64 (atL l j)):=by
 obtain ⟨A',c',e,h1,h2,h3⟩:=h.open_
 injection e with e1 e2 e3
 subst e1 e2 e3
 refine ⟨rfl,h1,h2,fun k hk => ?_⟩
 obtain ⟨b,off,e,hb,hc⟩:=h3 k hk
 refine ⟨b,off,e,hb,fun j hj => ?_⟩
 rw [hc j hj]
 unfold atL
 rw [List.getD_eq_getElem?_getD,List.getElem?_eq_getElem hj]
 rfl
theorem refValid21 (v:Value) (s:SetT) (w:World) (hv:SetAt w w.heap.size v s) (hn:SetNames s) :
  Calls Tryz.prog 14 #[v] w fun e w' => e = .returned (.bool (setB s))∧Below w.heap.size w w':=by
 rw [← setR_eq]
 have hnm:=fun W => refIsName s.name hn.name W
 have HSet:=zh fun W (hb:Below w.heap.size w W) => hv.grow hb
 have HIt:=zh fun hlen W (hb:Below w.heap.size w W) => refItems v s W (HSet.out W hb) hn.items hlen
 have HBr:=zh fun u (hu:BricksAt w w.heap.size u s.bricks) W (hb:Below w.heap.size w W) => refBricks u s.bricks _ W (hu.below hb (Nat.le_refl _)) hn.bricks
 obtain ⟨Al,cl,Ai,ci,Ab,cb,rfl,hL,hI,hB⟩:=hv
 have HBr2:=zh (HBr.out _ hB)
 obtain ⟨-,hl1,hl2,hlc⟩:=lines_at hL
 unfold maxLen at hl2
 have HLc:=zh hlc
 have HV:Hid (setR s=(nameB s.name && (Zw s.depth 0 1048576 && (Zw s.low 0 s.high && (Zw s.high 0 1048576 && (Zw s.len 1000 1048576 && ((s.len % 1000 == 0) && (Zw (s.lines.length:Int) 2 10 && (Zw s.pipe 0 1048576 && (Zw s.arbor 0 1048576 && (Zw s.purch 1 2 && (Zw s.most 1 67108864 && (Zw s.brake 0 67108864 && (upto (lineR s.lines s.len) s.lines.length && (itemsR s.items s.len && bricksR s.bricks))))))))))))))):=rfl
 have HD:=zh (Blk.new w 26 #[.string s.name,.int .i64 s.depth,.int .i64 s.low,.int .i64 s.high,.int .i64 s.len,.slice Al s.lines.length cl,.int .i64 s.pipe,.int .i64 s.arbor,.int .i64 s.purch,.int .i64 s.most,.int .i64 s.brake,.slice Ai s.items.length ci,.slice Ab s.bricks.length cb])
 have HB1:=zh ((Below.refl _ w).alloc (Nat.le_refl _) (.cells #[.string s.name,.int .i64 s.depth,.int .i64 s.low,.int .i64 s.high,.int .i64 s.len,.slice Al s.lines.length cl,.int .i64 s.pipe,.int .i64 s.arbor,.int .i64 s.purch,.int .i64 s.most,.int .i64 s.brake,.slice Ai s.items.length ci,.slice Ab s.bricks.length cb] 26))
 clear hL hI hB hn HBr HSet hlc
 unfold setVal at *
 go_enter Tryz.func14,Tryz.ntmps14
 go_wp2_with (go_at_call 47;fail)
 generalize w.alloc (.cells #[.string s.name,.int .i64 s.depth,.int .i64 s.low,.int .i64 s.high,.int .i64 s.len,.slice Al s.lines.length cl,.int .i64 s.pipe,.int .i64 s.arbor,.int .i64 s.purch,.int .i64 s.most,.int .i64 s.brake,.slice Ai s.items.length ci,.slice Ab s.bricks.length cb] 26)=W1 at *
 have z0:=HD.out.cell 0;have z1:=HD.out.cell 1;have z2:=HD.out.cell 2;have z3:=HD.out.cell 3;have z4:=HD.out.cell 4;have z5:=HD.out.cell 5;have z6:=HD.out.cell 6;have z7:=HD.out.cell 7;have z8:=HD.out.cell 8;have z9:=HD.out.cell 9;have z10:=HD.out.cell 10;have z11:=HD.out.cell 11;have z12:=HD.out.cell 12
 simp only [zq1,zq2,zq3] at z0 z1 z2 z3 z4 z5 z6 z7 z8 z9 z10 z11 z12
 go_at_call 47
 refine (hnm _).mono ?_
 rintro e w' ⟨rfl,rfl⟩
 rcases Bool.eq_false_or_eq_true (nameB s.name) with h0 | h0
 rotate_left
 ·have HV2:Hid (setR s=false):=by unfold Hid;rw [HV.out,h0];rfl
  rw [h0]
  go_wp2_with fail
  go_ret
  exact ⟨Ze HV2.out.symm,HB1.out⟩
 rw [h0,Bool.true_and] at HV
 rw [h0]
 clear h0
 go_wp2_with (go_at_call 48;fail)
 go_at_call 48
 refine (refBetween21 _ _ _ _).mono ?_
 rintro e w' ⟨rfl,rfl⟩
 rcases Bool.eq_false_or_eq_true (Zw s.depth 0 1048576) with h1 | h1
 rotate_left
 ·have HV2:Hid (setR s=false):=by unfold Hid;rw [HV.out,h1];rfl
  rw [h1]
  go_wp2_with fail
  go_ret
  exact ⟨Ze HV2.out.symm,HB1.out⟩
 rw [h1,Bool.true_and] at HV
 rw [h1]
 clear h1
 go_wp2_with (go_at_call 48;fail)
 go_at_call 48
 refine (refBetween21 _ _ _ _).mono ?_
 rintro e w' ⟨rfl,rfl⟩
 rcases Bool.eq_false_or_eq_true (Zw s.low 0 s.high) with h2 | h2
 rotate_left
 ·have HV2:Hid (setR s=false):=by unfold Hid;rw [HV.out,h2];rfl
  rw [h2]
  go_wp2_with fail
  go_ret
  exact ⟨Ze HV2.out.symm,HB1.out⟩
 rw [h2,Bool.true_and] at HV
 rw [h2]
 clear h2
 go_wp2_with (go_at_call 48;fail)
 go_at_call 48
 refine (refBetween21 _ _ _ _).mono ?_
 rintro e w' ⟨rfl,rfl⟩
 rcases Bool.eq_false_or_eq_true (Zw s.high 0 1048576) with h3 | h3
 rotate_left
 ·have HV2:Hid (setR s=false):=by unfold Hid;rw [HV.out,h3];rfl
  rw [h3]
  go_wp2_with fail
  go_ret
  exact ⟨Ze HV2.out.symm,HB1.out⟩
 rw [h3,Bool.true_and] at HV
 rw [h3]
 clear h3
 go_wp2_with (go_at_call 48;fail)
 go_at_call 48
 refine (refBetween21 _ _ _ _).mono ?_
 rintro e w' ⟨rfl,rfl⟩
 rcases Bool.eq_false_or_eq_true (Zw s.len 1000 1048576) with h4 | h4
 rotate_left
 ·have HV2:Hid (setR s=false):=by unfold Hid;rw [HV.out,h4];rfl
  rw [h4]
  go_wp2_with fail
  go_ret
  exact ⟨Ze HV2.out.symm,HB1.out⟩
 rw [h4,Bool.true_and] at HV
 rw [h4]
 have hlen:=Zh h4
 have HLen:=zh hlen
 have htm:s.len.tmod 1000=s.len % 1000:=Int.tmod_eq_emod_of_nonneg (by omega)
 have vr:IntKind.i64.wrap (s.len % 1000)=s.len % 1000:=IntWalk.i64_in _ (by omega)
 clear hlen
 clear h4
 rcases Bool.eq_false_or_eq_true ((s.len % 1000 == 0)) with h5 | h5
 rotate_left
 ·have HV2:Hid (setR s=false):=by unfold Hid;rw [HV.out,h5];rfl
  have dz:(s.len % 1000 != 0)=true:=by unfold bne;rw [h5];rfl
  clear h5
  go_wp2_with fail
  go_ret
  exact ⟨Ze HV2.out.symm,HB1.out⟩
 have dz:(s.len % 1000 != 0)=false:=by unfold bne;rw [h5];rfl
 rw [h5,Bool.true_and] at HV
 clear h5
 go_wp2_with (go_at_call 48;fail)
 go_at_call 48
 refine (refBetween21 _ _ _ _).mono ?_
 rintro e w' ⟨rfl,rfl⟩
 rcases Bool.eq_false_or_eq_true (Zw (s.lines.length:Int) 2 10) with h6 | h6
 rotate_left
 ·have HV2:Hid (setR s=false):=by unfold Hid;rw [HV.out,h6];rfl
  rw [h6]
  go_wp2_with fail
  go_ret
  exact ⟨Ze HV2.out.symm,HB1.out⟩
 rw [h6,Bool.true_and] at HV
 rw [h6]
 clear h6
 go_wp2_with (go_at_call 48;fail)
 go_at_call 48
 refine (refBetween21 _ _ _ _).mono ?_
 rintro e w' ⟨rfl,rfl⟩
 rcases Bool.eq_false_or_eq_true (Zw s.pipe 0 1048576) with h7 | h7
 rotate_left
 ·have HV2:Hid (setR s=false):=by unfold Hid;rw [HV.out,h7];rfl
  rw [h7]
  go_wp2_with fail
  go_ret
  exact ⟨Ze HV2.out.symm,HB1.out⟩
 rw [h7,Bool.true_and] at HV
 rw [h7]
 clear h7
 go_wp2_with (go_at_call 48;fail)
 go_at_call 48
 refine (refBetween21 _ _ _ _).mono ?_
 rintro e w' ⟨rfl,rfl⟩
 rcases Bool.eq_false_or_eq_true (Zw s.arbor 0 1048576) with h8 | h8
 rotate_left
 ·have HV2:Hid (setR s=false):=by unfold Hid;rw [HV.out,h8];rfl
  rw [h8]
  go_wp2_with fail
  go_ret
  exact ⟨Ze HV2.out.symm,HB1.out⟩
 rw [h8,Bool.true_and] at HV
 rw [h8]
 clear h8
 go_wp2_with (go_at_call 48;fail)
 go_at_call 48
 refine (refBetween21 _ _ _ _).mono ?_
 rintro e w' ⟨rfl,rfl⟩
 rcases Bool.eq_false_or_eq_true (Zw s.purch 1 2) with h9 | h9
 rotate_left
 ·have HV2:Hid (setR s=false):=by unfold Hid;rw [HV.out,h9];rfl
  rw [h9]
  go_wp2_with fail
  go_ret
  exact ⟨Ze HV2.out.symm,HB1.out⟩
 rw [h9,Bool.true_and] at HV
 rw [h9]
 clear h9
 go_wp2_with (go_at_call 48;fail)
 go_at_call 48
 refine (refBetween21 _ _ _ _).mono ?_
 rintro e w' ⟨rfl,rfl⟩
 rcases Bool.eq_false_or_eq_true (Zw s.most 1 67108864) with h10 | h10
 rotate_left
 ·have HV2:Hid (setR s=false):=by unfold Hid;rw [HV.out,h10];rfl
  rw [h10]
  go_wp2_with fail
  go_ret
  exact ⟨Ze HV2.out.symm,HB1.out⟩
 rw [h10,Bool.true_and] at HV
 rw [h10]
 clear h10
 go_wp2_with (go_at_call 48;fail)
 go_at_call 48
 refine (refBetween21 _ _ _ _).mono ?_
 rintro e w' ⟨rfl,rfl⟩
 rcases Bool.eq_false_or_eq_true (Zw s.brake 0 67108864) with h11 | h11
 rotate_left
 ·have HV2:Hid (setR s=false):=by unfold Hid;rw [HV.out,h11];rfl
  rw [h11]
  go_wp2_with fail
  go_ret
  exact ⟨Ze HV2.out.symm,HB1.out⟩
 rw [h11,Bool.true_and] at HV
 rw [h11]
 clear h11
 go_wp2_with fail
 clear z0 z1 z2 z3 z6 z7 z8 z9 z10 z11 htm vr dz
 go_loopw [3] (fun x wr => ∃ k:Nat,k≤s.lines.length∧x = .int .i64 k∧Hid (upto (lineR s.lines s.len) k=true)∧∃ q,wr=W1.drewN q) (fun x _ => s.lines.length-(intOf x).toNat)
 case atStart => exact ⟨0,Nat.zero_le _,rfl,upto_zero _,0,rfl⟩
 case round =>
  obtain ⟨k,hk,rfl,HU,q,rfl⟩:=hrel
  by_cases hkl:k<s.lines.length
  ·obtain ⟨b,off,rfl,hb,hc⟩:=HLc.out k hkl
   have y0:=(HB1.out.cell (p:=⟨b,off+k,none⟩) hb).trans (hc k hkl)
   have i1:(0:Int)≤(k:Int):=Int.natCast_nonneg _
   have i2:(k:Int)<(s.lines.length:Int):=by omega
   have HRe:Hid (lineR s.lines s.len k=(Zw (atL s.lines k) 0 s.len && (decide (k=0) || decide (atL s.lines (k-1)<atL s.lines k)))):=rfl
   have HNo:=zh (fun h:lineR s.lines s.len k=false => show setR s=false by rw [HV.out,upto_no hkl h];rfl)
   have hbt:=fun W => refBetween21 (atL s.lines k) 0 s.len W
   rcases Bool.eq_false_or_eq_true (Zw (atL s.lines k) 0 s.len) with h0 | h0
   rotate_left
   ·have HV2:Hid (setR s=false):=HNo.out (by rw [HRe.out,h0];rfl)
    rw [h0] at hbt
    clear h0 hc
    go_wp2
    go_quiet ((go_at_call 48;exact quiet_add (hbt _)))
    go_wp2
    go_ret
    exact ⟨Ze HV2.out.symm,Zf (Zf HB1.out _) _⟩
   rw [h0] at hbt HRe
   clear h0
   by_cases hz:k=0
   ·have g0:decide (0<k)=false:=by rw [decide_eq_false_iff_not];omega
    have HU2:=zh (upto_succ HU.out (show lineR s.lines s.len k=true by rw [HRe.out,decide_eq_true hz];rfl))
    clear hz hc
    go_wp2
    go_quiet ((go_at_call 48;exact quiet_add (hbt _)))
    go_wp2
    go_roundw
    case rel => exact ⟨k+1,by omega,by go_num,HU2,_,rfl⟩
    case measure => simp [intOf];omega
   have g0:decide (0<k)=true:=by rw [decide_eq_true_iff];omega
   have y1:=(HB1.out.cell (p:=⟨b,off+(k-1),none⟩) hb).trans (hc (k-1) (by omega))
   have v1:IntKind.i64.wrap ((k:Int)-1)=(k:Int)-1:=IntWalk.i64_in _ (by omega)
   have i3:((k:Int)-1).toNat=k-1:=by omega
   have i4:(0:Int)≤(k:Int)-1:=by omega
   have i5:(k:Int)-1<(s.lines.length:Int):=by omega
   rw [decide_eq_false hz,Bool.false_or] at HRe
   clear hz hc
   by_cases c1:atL s.lines k≤atL s.lines (k-1)
   ·have d1:decide (atL s.lines k≤atL s.lines (k-1))=true:=decide_eq_true c1
    have HV2:Hid (setR s=false):=HNo.out (by rw [HRe.out,decide_eq_false (by omega)];rfl)
    clear c1
    go_wp2
    go_quiet ((go_at_call 48;exact quiet_add (hbt _)))
    go_wp2
    go_ret
    exact ⟨Ze HV2.out.symm,Zf (Zf HB1.out _) _⟩
   ·have d1:decide (atL s.lines k≤atL s.lines (k-1))=false:=decide_eq_false c1
    have HU2:=zh (upto_succ HU.out (show lineR s.lines s.len k=true by rw [HRe.out,decide_eq_true (by omega)];rfl))
    clear c1
    go_wp2
    go_quiet ((go_at_call 48;exact quiet_add (hbt _)))
    go_wp2
    go_roundw
    case rel => exact ⟨k+1,by omega,by go_num,HU2,_,rfl⟩
    case measure => simp [intOf];omega
  ·obtain rfl:k=s.lines.length:=by omega
   have HV3:Hid (setR s=(itemsR s.items s.len && bricksR s.bricks)):=by unfold Hid;rw [HV.out,HU.out,Bool.true_and]
   have HBq:=zh (Zf HB1.out q)
   have HDq:=zh (HD.out.drewN q)
   clear HV HU z4 z5 z12 HB1 HD
   generalize W1.drewN q=W2 at *
   have hit:=HIt.out HLen.out _ HBq.out
   have z0:=HDq.out.cell 0;have z1:=HDq.out.cell 1;have z2:=HDq.out.cell 2;have z3:=HDq.out.cell 3;have z4:=HDq.out.cell 4;have z5:=HDq.out.cell 5;have z6:=HDq.out.cell 6;have z7:=HDq.out.cell 7;have z8:=HDq.out.cell 8;have z9:=HDq.out.cell 9;have z10:=HDq.out.cell 10;have z11:=HDq.out.cell 11;have z12:=HDq.out.cell 12
   simp only [zq1,zq2,zq3] at z0 z1 z2 z3 z4 z5 z6 z7 z8 z9 z10 z11 z12
   go_wp2_with (go_at_call 49;fail)
   go_at_call 49
   refine hit.mono ?_
   rintro e w3 ⟨rfl,hb3⟩
   have HB3:=zh (HBq.out.trans (hb3.mono HBq.out.size))
   have HD3:=zh (HDq.out.below hb3 HDq.out.lt)
   clear hit hb3 HBq HDq z0 z1 z2 z3 z4 z5 z6 z7 z8 z9 z10 z11 z12
   have z12:=HD3.out.cell 12
   simp only [zq1,zq2,zq3] at z12
   have hbr:=HBr2.out _ HB3.out
   rcases Bool.eq_false_or_eq_true (itemsR s.items s.len) with h1 | h1
   rotate_left
   ·rw [h1] at HV3 ⊢
    go_wp2_with fail
    go_ret
    exact ⟨Ze HV3.out.symm,HB3.out⟩
   rw [h1,Bool.true_and] at HV3
   rw [h1]
   go_wp2_with (go_at_call 50;refine hbr.mono ?_;rintro e w4 ⟨rfl,q4,rfl⟩)
   go_ret
   exact ⟨Ze HV3.out.symm,Zf HB3.out _⟩
end Go.Proofs.YtfhmbechennkbaaGreatDoor
