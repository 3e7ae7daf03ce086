/- Parts of the proof, laid into one text: R02, R02g, R02v. -/
import Derived.Test.YtfhmbechennkbaaGreatR9
namespace Go.Proofs.YtfhmbechennkbaaGreat
open Go.RowKit Go.Shelf
theorem zq1 {α:Type} {l:List α} {i:Nat}:l.toArray[i]?=l[i]?:=List.getElem?_toArray
theorem zq2 {α:Type} {a:α} {l:List α} {i:Nat}:(a::l)[i+1]?=l[i]?:=List.getElem?_cons_succ
theorem zq3 {α:Type} {a:α} {l:List α}:(a::l)[0]?=some a:=List.getElem?_cons_zero
theorem u64_and1 (n:Int):bits .and .u64 n 1=n % 2:=by
 have h1:(BitVec.ofInt 64 1).toNat=2 ^ 1-1:=by decide
 have key:(BitVec.ofInt 64 n &&& BitVec.ofInt 64 1).toNat=(n % ((2 ^ 64:Nat):Int)).toNat % 2 ^ 1:=by
  rw [BitVec.toNat_and,BitVec.toNat_ofInt,h1,Nat.and_two_pow_sub_one_eq_mod]
 show (((BitVec.ofInt 64 n &&& BitVec.ofInt 64 1).toNat:Nat):Int) % 18446744073709551616=n % 2
 rw [key]
 omega
theorem u64_even (x:Nat):(bits .and .u64 (x:Int) 1 == 0)=decide (x % 2=0):=by
 rw [u64_and1,Bool.eq_iff_iff,beq_iff_eq,decide_eq_true_eq]
 omega
abbrev uV (x:Nat):Value:=.agg #[.int .u64 0,.int .u64 (x:Int)]
theorem third_cells (w:World) (X Y:Obj) (t:TypeId) (a b:Value):(((w.alloc X).alloc Y).alloc (.cells #[a,b] t)).cell? ⟨w.heap.size+1+1,0,none⟩=some a∧(((w.alloc X).alloc Y).alloc (.cells #[a,b] t)).cell? ⟨w.heap.size+1+1,1,none⟩=some b:=by
 have h:=second_cells (w.alloc X) Y t a b
 rw [World.size_alloc] at h
 exact h
theorem below3 (w:World) (X Y Z:Obj):Below w.heap.size w (((w.alloc X).alloc Y).alloc Z):=(((Below.refl _ w).alloc (Nat.le_refl _) _).alloc (by simp) _).alloc (by simp;omega) _
set_option maxRecDepth 100000 in
set_option maxHeartbeats 1000000 in
theorem rfHalf (x:Nat) (w:World) (hx:x<9223372036854775808):Calls Tryz.prog 79 #[uV x] w fun e w' => e = .returned (uV (x / 2))∧Below w.heap.size w w':=by
 have e2:((x / 2:Nat):Int)=(x:Int) / 2:=by omega
 have v1:IntKind.u64.wrap ((x:Int) / 2)=(x:Int) / 2:=by
  show (x:Int) / 2 % 18446744073709551616=_
  omega
 have E2:=Lib.hid e2
 clear e2
 go_enter Tryz.func79,Tryz.ntmps79
 go_wp2_with fail
 obtain ⟨p0,p1⟩:=second_cells w (.cells #[.int .u64 0,.int .u64 (x:Int)] 72) 72 (.int .u64 0) (.int .u64 ((x:Int) / 2))
 refine bodyPost_ret (v:=.agg #[.int .u64 0,.int .u64 ((x:Int) / 2)]) (by simp [results,Tryz.results79,go_sem,p0,p1]) rfl ?_
 exact ⟨by unfold uV;rw [E2.out],((Below.refl _ w).alloc (Nat.le_refl _) _).alloc (by simp) _⟩
set_option maxRecDepth 100000 in
set_option maxHeartbeats 1000000 in
theorem rfLess (x y:Nat) (w:World):Calls Tryz.prog 80 #[uV x,uV y] w fun e w' => e = .returned (.bool (decide (x<y)))∧Below w.heap.size w w':=by
 have HB:=Lib.hid (((Below.refl _ w).alloc (Nat.le_refl _) (.cells #[.int .u64 0,.int .u64 (x:Int)] 72)).alloc (by simp) (.cells #[.int .u64 0,.int .u64 (y:Int)] 72))
 go_enter Tryz.func80,Tryz.ntmps80
 go_wp2_with fail
 go_ret
 exact ⟨rfl,HB.out⟩
set_option maxRecDepth 100000 in
set_option maxHeartbeats 1000000 in
theorem rfMinus (x y:Nat) (w:World) (hx:x<9223372036854775808) (hy:y≤x):Calls Tryz.prog 81 #[uV x,uV y] w fun e w' => e = .returned (uV (x-y))∧Below w.heap.size w w':=by
 have e2:((x-y:Nat):Int)=(x:Int)-(y:Int):=by omega
 have v1:IntKind.u64.wrap ((x:Int)-(y:Int))=(x:Int)-(y:Int):=by
  show ((x:Int)-(y:Int)) % 18446744073709551616=_
  omega
 have d1:decide ((x:Int)<(y:Int))=false:=decide_eq_false (by omega)
 have d2:decide (x<y)=false:=decide_eq_false (by omega)
 have E2:=Lib.hid e2
 clear e2
 go_enter Tryz.func81,Tryz.ntmps81
 go_wp2_with fail
 obtain ⟨p0,p1⟩:=third_cells w (.cells #[.int .u64 0,.int .u64 (x:Int)] 72) (.cells #[.int .u64 0,.int .u64 (y:Int)] 72) 72 (.int .u64 0) (.int .u64 ((x:Int)-(y:Int)))
 refine bodyPost_ret (v:=.agg #[.int .u64 0,.int .u64 ((x:Int)-(y:Int))]) (by simp [results,Tryz.results81,go_sem,p0,p1]) rfl ?_
 exact ⟨by unfold uV;rw [E2.out],below3 ..⟩
set_option maxRecDepth 100000 in
set_option maxHeartbeats 1000000 in
theorem rfPlus (x y:Nat) (w:World) (hx:x+y<9223372036854775808):Calls Tryz.prog 82 #[uV x,uV y] w fun e w' => e = .returned (uV (x+y))∧Below w.heap.size w w':=by
 have e2:((x+y:Nat):Int)=(x:Int)+(y:Int):=by omega
 have v1:IntKind.u64.wrap ((x:Int)+(y:Int))=(x:Int)+(y:Int):=by
  show ((x:Int)+(y:Int)) % 18446744073709551616=_
  omega
 have d1:decide ((x:Int)+(y:Int)<(x:Int))=false:=decide_eq_false (by omega)
 have E2:=Lib.hid e2
 clear e2
 go_enter Tryz.func82,Tryz.ntmps82
 go_wp2_with fail
 obtain ⟨p0,p1⟩:=third_cells w (.cells #[.int .u64 0,.int .u64 (x:Int)] 72) (.cells #[.int .u64 0,.int .u64 (y:Int)] 72) 72 (.int .u64 0) (.int .u64 ((x:Int)+(y:Int)))
 refine bodyPost_ret (v:=.agg #[.int .u64 0,.int .u64 ((x:Int)+(y:Int))]) (by simp [results,Tryz.results82,go_sem,p0,p1]) rfl ?_
 exact ⟨by unfold uV;rw [E2.out],below3 ..⟩
structure GU (w W:World) (x y:Nat):Prop where
 bx:Blk W w.heap.size 72 #[.int .u64 0,.int .u64 (x:Int)]
 by_:Blk W (w.heap.size+1) 72 #[.int .u64 0,.int .u64 (y:Int)]
 res:Blk W (w.heap.size+1+1) 72 #[.int .u64 0,.int .u64 0]
 bel:Below w.heap.size w W
section
variable {w W W':World} {x y:Nat}
theorem GU.grow (h:GU w W x y) (hb:Below W.heap.size W W'):GU w W' x y :=
 ⟨h.bx.below hb h.bx.lt,h.by_.below hb h.by_.lt,h.res.below hb h.res.lt,h.bel.trans (hb.mono h.bel.size)⟩
theorem GU.putx (h:GU w W x y) (z:Nat):GU w ((W.setCell ⟨w.heap.size,0,none⟩ (.int .u64 0)).setCell ⟨w.heap.size,1,none⟩ (.int .u64 (z:Int))) z y :=
 ⟨(h.bx.set_ 0 _).set_ 1 _,(h.by_.far (p:=⟨w.heap.size,0,none⟩) (by show w.heap.size+1≠w.heap.size;omega) _).far (p:=⟨w.heap.size,1,none⟩) (by show w.heap.size+1≠w.heap.size;omega) _,
  (h.res.far (p:=⟨w.heap.size,0,none⟩) (by show w.heap.size+1+1≠w.heap.size;omega) _).far (p:=⟨w.heap.size,1,none⟩) (by show w.heap.size+1+1≠w.heap.size;omega) _,
  (h.bel.setCell (p:=⟨w.heap.size,0,none⟩) (Nat.le_refl _) _).setCell (p:=⟨w.heap.size,1,none⟩) (Nat.le_refl _) _⟩
theorem GU.puty (h:GU w W x y) (z:Nat):GU w ((W.setCell ⟨w.heap.size+1,0,none⟩ (.int .u64 0)).setCell ⟨w.heap.size+1,1,none⟩ (.int .u64 (z:Int))) x z :=
 ⟨(h.bx.far (p:=⟨w.heap.size+1,0,none⟩) (by show w.heap.size≠w.heap.size+1;omega) _).far (p:=⟨w.heap.size+1,1,none⟩) (by show w.heap.size≠w.heap.size+1;omega) _,(h.by_.set_ 0 _).set_ 1 _,
  (h.res.far (p:=⟨w.heap.size+1,0,none⟩) (by show w.heap.size+1+1≠w.heap.size+1;omega) _).far (p:=⟨w.heap.size+1,1,none⟩) (by show w.heap.size+1+1≠w.heap.size+1;omega) _,
  (h.bel.setCell (p:=⟨w.heap.size+1,0,none⟩) (Nat.le_succ _) _).setCell (p:=⟨w.heap.size+1,1,none⟩) (Nat.le_succ _) _⟩
end
theorem GU.start (w:World) (a b:Nat):GU w (((w.alloc (.cells #[.int .u64 0,.int .u64 (a:Int)] 72)).alloc (.cells #[.int .u64 0,.int .u64 (b:Int)] 72)).alloc (.cells #[.int .u64 0,.int .u64 0] 72)) a b:=by
 have h1:=((Blk.new w 72 #[.int .u64 0,.int .u64 (a:Int)]).alloc (.cells #[.int .u64 0,.int .u64 (b:Int)] 72)).alloc (.cells #[.int .u64 0,.int .u64 0] 72)
 have h2:=(Blk.new (w.alloc (.cells #[.int .u64 0,.int .u64 (a:Int)] 72)) 72 #[.int .u64 0,.int .u64 (b:Int)]).alloc (.cells #[.int .u64 0,.int .u64 0] 72)
 have h3:=Blk.new ((w.alloc (.cells #[.int .u64 0,.int .u64 (a:Int)] 72)).alloc (.cells #[.int .u64 0,.int .u64 (b:Int)] 72)) 72 #[.int .u64 0,.int .u64 0]
 simp only [World.size_alloc] at h2 h3
 exact ⟨h1,h2,h3,below3 ..⟩
theorem twos_few61 {a b t x y:Nat} (h:Twos (2 ^ 61) a b t x y):t<61:=by
 have h1:2 ^ t*1≤2 ^ t*x:=Nat.mul_le_mul_left _ h.x0
 have h2:=h.xm
 rw [Nat.mul_one] at h1
 exact (Nat.pow_lt_pow_iff_right (a:=2) (by decide)).1 (Nat.lt_of_le_of_lt h1 h2)
set_option maxRecDepth 100000 in
set_option maxHeartbeats 2000000 in
theorem rfGcd (a b:Nat) (w:World) (ha:a<2 ^ 61) (hb0:0<b) (hb:b<2 ^ 61):Calls Tryz.prog 38 #[uV a,uV b] w fun e w' => e = .returned (uV (Nat.gcd a b))∧Below w.heap.size w w':=by
 have HS:=Lib.hid (GU.start w a b)
 by_cases a0:a=0
 ·have e0:((a:Int) == 0)=true:=beq_iff_eq.2 (by omega)
  have HG:Hid (Nat.gcd a b=b):=by unfold Hid;rw [a0,Nat.gcd_zero_left]
  clear a0 ha hb0 hb
  go_enter Tryz.func38,Tryz.ntmps38
  go_upto_region 1 with fail
  generalize ((w.alloc (.cells #[.int .u64 0,.int .u64 (a:Int)] 72)).alloc (.cells #[.int .u64 0,.int .u64 (b:Int)] 72)).alloc (.cells #[.int .u64 0,.int .u64 0] 72)=W1 at *
  have x0:=HS.out.bx.cell 0
  have x1:=HS.out.bx.cell 1
  have y0:=HS.out.by_.cell 0
  have y1:=HS.out.by_.cell 1
  have r0:=HS.out.res.cell 0
  have r1:=HS.out.res.cell 1
  have f0:=HS.out.res.frozen 0
  have f1:=HS.out.res.frozen 1
  simp only [zq1,zq2,zq3] at x0 x1 y0 y1 r0 r1
  go_wp2_with fail
  have hr:=((HS.out.res.set_ 0 (.int .u64 0)).set_ 1 (.int .u64 (b:Int)))
  have p0:=hr.cell 0
  have p1:=hr.cell 1
  simp only [List.setIfInBounds_toArray,List.set_cons_zero,List.set_cons_succ,zq1,zq2,zq3] at p0 p1
  refine bodyPost_ret (v:=.agg #[.int .u64 0,.int .u64 (b:Int)]) (by simp [results,Tryz.results38,go_sem,p0,p1]) rfl ?_
  exact ⟨by unfold uV;rw [HG.out],(HS.out.bel.setCell (p:=⟨w.heap.size+1+1,0,none⟩) (by show w.heap.size≤w.heap.size+1+1;omega) _).setCell (p:=⟨w.heap.size+1+1,1,none⟩) (by show w.heap.size≤w.heap.size+1+1;omega) _⟩
 ·have e0:((a:Int) == 0)=false:=beq_eq_false_iff_ne.2 (by omega)
  have HT:Hid (Twos (2 ^ 61) a b 0 a b):=⟨by omega,hb0,by rw [Nat.pow_zero,Nat.one_mul];exact ha,hb,by rw [Nat.pow_zero,Nat.one_mul]⟩
  clear a0 ha hb0 hb
  go_enter Tryz.func38,Tryz.ntmps38
  go_upto_region 1 with fail
  generalize ((w.alloc (.cells #[.int .u64 0,.int .u64 (a:Int)] 72)).alloc (.cells #[.int .u64 0,.int .u64 (b:Int)] 72)).alloc (.cells #[.int .u64 0,.int .u64 0] 72)=W1 at *
  have x0:=HS.out.bx.cell 0
  have x1:=HS.out.bx.cell 1
  simp only [zq1,zq2,zq3] at x0 x1
  go_wp2_with fail
  clear x0 x1
  go_loopg [5] a (fun gk tw wr => ∃ y t:Nat,tw = .int .i64 t∧Hid (GU w wr gk y)∧Hid (Twos (2 ^ 61) a b t gk y))
  case atStart => exact ⟨b,0,rfl,HS,HT⟩
  case round =>
   clear HS HT e0
   obtain ⟨y,t,rfl,HS,HT⟩:=hrel
   obtain ⟨x,rfl⟩:∃ x,x=gk:=⟨_,rfl⟩
   have x0:=HS.out.bx.cell 0
   have x1:=HS.out.bx.cell 1
   have y0:=HS.out.by_.cell 0
   have y1:=HS.out.by_.cell 1
   simp only [zq1,zq2,zq3] at x0 x1 y0 y1
   have xb:x<9223372036854775808:=Nat.lt_trans HT.out.xlt (by decide)
   have yb:y<9223372036854775808:=Nat.lt_trans HT.out.ym (by decide)
   have ht:=twos_few61 HT.out
   have hx1:=u64_even x
   have hy1:=u64_even y
   by_cases hx:x % 2=0
   ·rw [decide_eq_true hx] at hx1
    by_cases hy:y % 2=0
    ·rw [decide_eq_true hy] at hy1
     obtain ⟨p,hp⟩:∃ p,x / 2=p:=⟨_,rfl⟩
     obtain ⟨q,hq⟩:∃ q,y / 2=q:=⟨_,rfl⟩
     have hT2:=HT.out.half hx hy
     rw [hp,hq] at hT2
     have HT2:=Lib.hid hT2
     have hlt:Hid (p<x):=by
      unfold Hid
      rw [← hp]
      exact Nat.div_lt_self HT.out.x0 (by decide)
     have v1:IntKind.i64.wrap ((t:Int)+1)=(t:Int)+1:=IntWalk.i64_in _ (by omega)
     have Hp:=Lib.hid hp
     have Hq:=Lib.hid hq
     clear hx hy hT2 hp hq
     go_upto_region 5 with fail
     have HSz:Hid (GU w wr.drew x y):=HS.out.grow ((Below.refl _ _).drew)
     clear HS HT hx1 hy1 ht
     go_region_with (go_at_call 79;refine (rfHalf _ _ (by omega)).mono ?_;rintro e w5 ⟨rfl,hb5⟩;(try rw [Hp.out]);(try rw [Hq.out]);have HSz:=Lib.hid (HSz.out.grow hb5);have x0:=HSz.out.bx.cell 0;have x1:=HSz.out.bx.cell 1;have y0:=HSz.out.by_.cell 0;have y1:=HSz.out.by_.cell 1;simp only [zq1,zq2,zq3] at x0 x1 y0 y1;have fx0:=HSz.out.bx.frozen 0;have fx1:=HSz.out.bx.frozen 1;have fy0:=HSz.out.by_.frozen 0;have fy1:=HSz.out.by_.frozen 1;clear hb5)
     all_goals
      have HS2:=Lib.hid ((HSz.out.putx p).puty q)
      clear x0 x1 y0 y1 fx0 fx1 fy0 fy1 HSz
      go_wp2_with fail
      go_roundg p
      case rel => exact ⟨q,t+1,by go_num,HS2,HT2⟩
      case measure => exact hlt.out
    ·rw [decide_eq_false hy] at hy1
     have HU:Hid (Stn (2 ^ 61) (Nat.gcd x y) x y):=⟨HT.out.y0,HT.out.xlt,HT.out.ym,rfl,.inr (by omega)⟩
     have hx9:=hx1
     clear hx hy
     go_upto_region 6 with fail
     have HG:Hid (Nat.gcd a b=2 ^ t*Nat.gcd x y):=HT.out.g
     have HF:Hid (2 ^ t*Nat.gcd x y<2 ^ 61):=HT.out.glt
     obtain ⟨G,HGe⟩:∃ G,Hid (Nat.gcd x y=G):=⟨_,rfl⟩
     rw [HGe.out] at HF HG HU
     have Ht:Hid (t<61):=ht
     clear HT HGe hx1 hy1 ht xb yb x0 x1 y0 y1
     go_loopg [] (x+y) (fun gk wr => ∃ x2 y2:Nat,x2+y2=gk∧Hid (GU w wr x2 y2)∧Hid (Stn (2 ^ 61) G x2 y2))
     case atStart => exact ⟨x,y,rfl,HS,HU⟩
     case round =>
      clear HS HU
      obtain ⟨x2,y2,rfl,HS,HU⟩:=hrel
      have x0:=HS.out.bx.cell 0
      have x1:=HS.out.bx.cell 1
      simp only [zq1,zq2,zq3] at x0 x1
      have xb:x2<9223372036854775808:=Nat.lt_trans HU.out.xm (by decide)
      have yb:y2<9223372036854775808:=Nat.lt_trans HU.out.ym (by decide)
      by_cases h0:x2=0
      ·have e0:((x2:Int) == 0)=true:=beq_iff_eq.2 (by omega)
       have e0n:((x2:Int) != 0)=false:=by simp [h0]
       have HGy:Hid (y2=G):=by
        unfold Hid
        rw [← HU.out.g,h0,Nat.gcd_zero_left]
       rw [HGy.out] at HS
       clear HU HGy h0 yb
       go_wp2_with fail
       clear x0 x1
       have HF0:Hid (2 ^ (t-t)*G=G):=by unfold Hid;rw [Nat.sub_self,Nat.pow_zero,Nat.one_mul]
       go_loopw [5] (fun jx wr => ∃ j:Nat,j≤t∧jx = .int .i64 j∧Hid (GU w wr x2 (2 ^ (t-j)*G))) (fun jx _ => (intOf jx).toNat)
       case atStart => exact ⟨t,Nat.le_refl _,rfl,by rw [HF0.out];exact HS⟩
       case round =>
        clear HS HF0
        obtain ⟨j,hj,rfl,HS⟩:=hrel
        have ht:=Ht.out
        have j0:(0:Int)≤(j:Int):=Int.natCast_nonneg _
        by_cases hj0:0<j
        ·have j1:(0:Int)<(j:Int):=by omega
         have hF2:2 ^ (t-j)*G+2 ^ (t-j)*G=2 ^ (t-(j-1))*G:=by
          rw [show t-(j-1)=t-j+1 by omega,Nat.pow_succ,Nat.mul_assoc,Nat.mul_left_comm]
          omega
         have hF3:2 ^ (t-(j-1))*G<2 ^ 61:=Nat.lt_of_le_of_lt (Nat.mul_le_mul_right _ (Nat.pow_le_pow_right (by decide) (by omega))) HF.out
         rw [show (2:Nat) ^ 61=2305843009213693952 from rfl] at hF3
         obtain ⟨m,hm⟩:∃ m,2 ^ (t-(j-1))*G=m:=⟨_,rfl⟩
         rw [hm] at hF2 hF3
         have Hm:=Lib.hid hm
         clear hm
         generalize 2 ^ (t-j)*G=n at *
         have v1:IntKind.i64.wrap ((j:Int)-1)=((j-1:Nat):Int):=(IntWalk.i64_in _ (by omega)).trans (by omega)
         have HSm:=Lib.hid hF2
         have hn:n+n<9223372036854775808:=by omega
         have y0:=HS.out.by_.cell 0
         have y1:=HS.out.by_.cell 1
         simp only [zq1,zq2,zq3] at y0 y1
         clear hF2 hF3
         go_wp2_with fail
         refine (rfPlus n n _ hn).mono ?_
         rintro e w5 ⟨rfl,hb5⟩
         rw [HSm.out]
         have HS5:=Lib.hid (HS.out.grow hb5)
         clear y0 y1 hb5 HS
         have y0:=HS5.out.by_.cell 0
         have y1:=HS5.out.by_.cell 1
         have f0:=HS5.out.by_.frozen 0
         have f1:=HS5.out.by_.frozen 1
         simp only [zq1,zq2,zq3] at y0 y1
         have HS6:=Lib.hid (HS5.out.puty m)
         clear HS5
         go_wp2_with fail
         clear y0 y1 f0 f1
         go_roundw
         case rel => exact ⟨j-1,by omega,rfl,by rw [Hm.out];exact HS6⟩
         case measure => simp [intOf];omega
        ·obtain rfl:j=0:=by omega
         rw [Nat.sub_zero] at HS
         have y0:=HS.out.by_.cell 0
         have y1:=HS.out.by_.cell 1
         have r0:=HS.out.res.cell 0
         have r1:=HS.out.res.cell 1
         have f0:=HS.out.res.frozen 0
         have f1:=HS.out.res.frozen 1
         simp only [zq1,zq2,zq3] at y0 y1 r0 r1
         generalize hz:2 ^ t*G=z at *
         have HG2:Hid (Nat.gcd a b=z):=HG.out
         have hr:=((HS.out.res.set_ 0 (.int .u64 0)).set_ 1 (.int .u64 (z:Int)))
         have p0:=hr.cell 0
         have p1:=hr.cell 1
         have HB:=Lib.hid HS.out.bel
         clear hz hr HS HG
         go_wp2_with fail
         simp only [List.setIfInBounds_toArray,List.set_cons_zero,List.set_cons_succ,zq1,zq2,zq3] at p0 p1
         refine bodyPost_ret (v:=.agg #[.int .u64 0,.int .u64 (z:Int)]) (by simp [results,Tryz.results38,go_sem,p0,p1]) rfl ?_
         exact ⟨by unfold uV;rw [HG2.out],(HB.out.setCell (p:=⟨w.heap.size+1+1,0,none⟩) (by show w.heap.size≤w.heap.size+1+1;omega) _).setCell (p:=⟨w.heap.size+1+1,1,none⟩) (by show w.heap.size≤w.heap.size+1+1;omega) _⟩
      ·have e0:((x2:Int) == 0)=false:=beq_eq_false_iff_ne.2 (by omega)
       have e0n:((x2:Int) != 0)=true:=by rw [bne_iff_ne];omega
       have H0:Hid (0<x2):=Nat.pos_of_ne_zero h0
       clear h0
       go_wp2_with fail
       clear x0 x1 xb yb e0 e0n
       go_loopg [] x2 (fun gk wr => Hid (GU w wr gk y2)∧Hid (Stn (2 ^ 61) G gk y2)∧Hid (0<gk∧gk≤x2))
       case atStart => exact ⟨HS,HU,⟨H0.out,Nat.le_refl _⟩⟩
       case round =>
        clear HS HU H0
        obtain ⟨HS,HU,HR⟩:=hrel
        obtain ⟨x4,rfl⟩:∃ x4,x4=gk:=⟨_,rfl⟩
        have x0:=HS.out.bx.cell 0
        have x1:=HS.out.bx.cell 1
        simp only [zq1,zq2,zq3] at x0 x1
        have xb:x4<9223372036854775808:=Nat.lt_trans HU.out.xm (by decide)
        have hx1:=u64_even x4
        by_cases hev:x4 % 2=0
        ·rw [decide_eq_true hev] at hx1
         obtain ⟨p,hp⟩:∃ p,x4 / 2=p:=⟨_,rfl⟩
         have hU2:=HU.out.left hev
         rw [hp] at hU2
         have HU2:=Lib.hid hU2
         have HR2:Hid (0<p∧p≤x2):=by have:=HR.out;unfold Hid;omega
         have HM2:Hid (p<x4):=by have:=HR.out;unfold Hid;omega
         have Hp:=Lib.hid hp
         clear hev hp hU2 HU HR
         go_wp2_with fail
         refine (rfHalf _ _ xb).mono ?_
         rintro e w5 ⟨rfl,hb5⟩
         rw [Hp.out]
         have HS5:=Lib.hid (HS.out.grow hb5)
         clear x0 x1 hb5 HS hx1
         have x0:=HS5.out.bx.cell 0
         have x1:=HS5.out.bx.cell 1
         have f0:=HS5.out.bx.frozen 0
         have f1:=HS5.out.bx.frozen 1
         simp only [zq1,zq2,zq3] at x0 x1
         have HS6:=Lib.hid (HS5.out.putx p)
         clear HS5
         go_wp2_with fail
         clear x0 x1 f0 f1
         go_roundg p
         case rel => exact ⟨HS6,HU2,HR2⟩
         case measure => exact HM2.out
        ·rw [decide_eq_false hev] at hx1
         have HOd:Hid (x4 % 2=1):=by unfold Hid;omega
         clear hev xb
         go_wp2_with fail
         clear x0 x1 hx1
         go_loopg [] y2 (fun gk wr => Hid (GU w wr x4 gk)∧Hid (Stn (2 ^ 61) G x4 gk)∧Hid (gk≤y2))
         case atStart => exact ⟨HS,HU,Nat.le_refl _⟩
         case round =>
          clear HS HU
          obtain ⟨HS,HU,HY⟩:=hrel
          obtain ⟨y4,rfl⟩:∃ y4,y4=gk:=⟨_,rfl⟩
          have y0:=HS.out.by_.cell 0
          have y1:=HS.out.by_.cell 1
          simp only [zq1,zq2,zq3] at y0 y1
          have yb:y4<9223372036854775808:=Nat.lt_trans HU.out.ym (by decide)
          have xb:x4<9223372036854775808:=Nat.lt_trans HU.out.xm (by decide)
          have hy1:=u64_even y4
          by_cases hev:y4 % 2=0
          ·rw [decide_eq_true hev] at hy1
           obtain ⟨p,hp⟩:∃ p,y4 / 2=p:=⟨_,rfl⟩
           have hU2:=HU.out.right HOd.out hev
           rw [hp] at hU2
           have HU2:=Lib.hid hU2
           have HY2:Hid (p≤y2):=by have:=HY.out;unfold Hid;omega
           have HM2:Hid (p<y4):=by have:=HU.out.y0;unfold Hid;omega
           have Hp:=Lib.hid hp
           clear hev hp hU2 HU HY xb
           go_wp2_with fail
           refine (rfHalf _ _ yb).mono ?_
           rintro e w5 ⟨rfl,hb5⟩
           rw [Hp.out]
           have HS5:=Lib.hid (HS.out.grow hb5)
           clear y0 y1 hb5 HS hy1
           have y0:=HS5.out.by_.cell 0
           have y1:=HS5.out.by_.cell 1
           have f0:=HS5.out.by_.frozen 0
           have f1:=HS5.out.by_.frozen 1
           simp only [zq1,zq2,zq3] at y0 y1
           have HS6:=Lib.hid (HS5.out.puty p)
           clear HS5
           go_wp2_with fail
           clear y0 y1 f0 f1
           go_roundg p
           case rel => exact ⟨HS6,HU2,HY2⟩
           case measure => exact HM2.out
          ·rw [decide_eq_false hev] at hy1
           have HOy:Hid (y4 % 2=1):=by unfold Hid;omega
           have x0:=HS.out.bx.cell 0
           have x1:=HS.out.bx.cell 1
           simp only [zq1,zq2,zq3] at x0 x1
           clear hev
           go_wp2_with fail
           refine (rfLess x4 y4 _).mono ?_
           rintro e w7 ⟨rfl,hb7⟩
           have HS7:=Lib.hid (HS.out.grow hb7)
           clear x0 x1 y0 y1 hb7 HS hy1
           have x0:=HS7.out.bx.cell 0
           have x1:=HS7.out.bx.cell 1
           have y0:=HS7.out.by_.cell 0
           have y1:=HS7.out.by_.cell 1
           simp only [zq1,zq2,zq3] at x0 x1 y0 y1
           by_cases hlt:x4<y4
           ·rw [decide_eq_true hlt]
            have HLe:=Lib.hid (Nat.le_of_lt hlt)
            have HU7:=Lib.hid ((HU.out.swap HOd.out).diff HOd.out (Nat.le_of_lt hlt))
            have HM:Hid (y4-x4+x4<x2+y2):=by have:=HR.out;have:=HY.out;unfold Hid;omega
            have f0:=HS7.out.bx.frozen 0
            have f1:=HS7.out.bx.frozen 1
            have g0:=HS7.out.by_.frozen 0
            have g1:=HS7.out.by_.frozen 1
            have HS8:=Lib.hid ((HS7.out.putx y4).puty x4)
            clear hlt HU HS7
            go_upto_region 13 with fail
            generalize (((w7.setCell ⟨w.heap.size,0,none⟩ (.int .u64 0)).setCell ⟨w.heap.size,1,none⟩ (.int .u64 (y4:Int))).setCell ⟨w.heap.size+1,0,none⟩ (.int .u64 0)).setCell ⟨w.heap.size+1,1,none⟩ (.int .u64 (x4:Int))=w8 at *
            clear x0 x1 y0 y1 f0 f1 g0 g1
            have x0:=HS8.out.bx.cell 0
            have x1:=HS8.out.bx.cell 1
            have y0:=HS8.out.by_.cell 0
            have y1:=HS8.out.by_.cell 1
            simp only [zq1,zq2,zq3] at x0 x1 y0 y1
            go_wp2_with fail
            refine (rfMinus y4 x4 _ yb HLe.out).mono ?_
            rintro e w9 ⟨rfl,hb9⟩
            have HS9:=Lib.hid (HS8.out.grow hb9)
            clear x0 x1 y0 y1 hb9 HS8
            generalize y4-x4=d at *
            have x0:=HS9.out.bx.cell 0
            have x1:=HS9.out.bx.cell 1
            have f0:=HS9.out.bx.frozen 0
            have f1:=HS9.out.bx.frozen 1
            simp only [zq1,zq2,zq3] at x0 x1
            have HS10:=Lib.hid (HS9.out.putx d)
            clear HS9
            go_wp2_with fail
            clear x0 x1 f0 f1
            go_roundg (d+x4)
            case rel => exact ⟨d,x4,rfl,HS10,HU7⟩
            case measure => exact HM.out
           ·rw [decide_eq_false hlt]
            have HLe:=Lib.hid (Nat.not_lt.1 hlt)
            have HU7:=Lib.hid (HU.out.diff HOy.out (Nat.not_lt.1 hlt))
            have HM:Hid (x4-y4+y4<x2+y2):=by have:=HR.out;have:=HY.out;have:=HU.out.y0;unfold Hid;omega
            clear hlt HU
            go_wp2_with fail
            refine (rfMinus x4 y4 _ xb HLe.out).mono ?_
            rintro e w9 ⟨rfl,hb9⟩
            have HS9:=Lib.hid (HS7.out.grow hb9)
            clear x0 x1 y0 y1 hb9 HS7
            generalize x4-y4=d at *
            have x0:=HS9.out.bx.cell 0
            have x1:=HS9.out.bx.cell 1
            have f0:=HS9.out.bx.frozen 0
            have f1:=HS9.out.bx.frozen 1
            simp only [zq1,zq2,zq3] at x0 x1
            have HS10:=Lib.hid (HS9.out.putx d)
            clear HS9
            go_wp2_with fail
            clear x0 x1 f0 f1
            go_roundg (d+y4)
            case rel => exact ⟨d,y4,rfl,HS10,HU7⟩
            case measure => exact HM.out
   ·rw [decide_eq_false hx] at hx1
    have HU:Hid (Stn (2 ^ 61) (Nat.gcd x y) x y):=⟨HT.out.y0,HT.out.xlt,HT.out.ym,rfl,.inl (by omega)⟩
    clear hx
    go_upto_region 6 with fail
    have HG:Hid (Nat.gcd a b=2 ^ t*Nat.gcd x y):=HT.out.g
    have HF:Hid (2 ^ t*Nat.gcd x y<2 ^ 61):=HT.out.glt
    obtain ⟨G,HGe⟩:∃ G,Hid (Nat.gcd x y=G):=⟨_,rfl⟩
    rw [HGe.out] at HF HG HU
    have Ht:Hid (t<61):=ht
    clear HT HGe hx1 hy1 ht xb yb x0 x1 y0 y1
    go_loopg [] (x+y) (fun gk wr => ∃ x2 y2:Nat,x2+y2=gk∧Hid (GU w wr x2 y2)∧Hid (Stn (2 ^ 61) G x2 y2))
    case atStart => exact ⟨x,y,rfl,HS,HU⟩
    case round =>
     clear HS HU
     obtain ⟨x2,y2,rfl,HS,HU⟩:=hrel
     have x0:=HS.out.bx.cell 0
     have x1:=HS.out.bx.cell 1
     simp only [zq1,zq2,zq3] at x0 x1
     have xb:x2<9223372036854775808:=Nat.lt_trans HU.out.xm (by decide)
     have yb:y2<9223372036854775808:=Nat.lt_trans HU.out.ym (by decide)
     by_cases h0:x2=0
     ·have e0:((x2:Int) == 0)=true:=beq_iff_eq.2 (by omega)
      have e0n:((x2:Int) != 0)=false:=by simp [h0]
      have HGy:Hid (y2=G):=by
       unfold Hid
       rw [← HU.out.g,h0,Nat.gcd_zero_left]
      rw [HGy.out] at HS
      clear HU HGy h0 yb
      go_wp2_with fail
      clear x0 x1
      have HF0:Hid (2 ^ (t-t)*G=G):=by unfold Hid;rw [Nat.sub_self,Nat.pow_zero,Nat.one_mul]
      go_loopw [5] (fun jx wr => ∃ j:Nat,j≤t∧jx = .int .i64 j∧Hid (GU w wr x2 (2 ^ (t-j)*G))) (fun jx _ => (intOf jx).toNat)
      case atStart => exact ⟨t,Nat.le_refl _,rfl,by rw [HF0.out];exact HS⟩
      case round =>
       clear HS HF0
       obtain ⟨j,hj,rfl,HS⟩:=hrel
       have ht:=Ht.out
       have j0:(0:Int)≤(j:Int):=Int.natCast_nonneg _
       by_cases hj0:0<j
       ·have j1:(0:Int)<(j:Int):=by omega
        have hF2:2 ^ (t-j)*G+2 ^ (t-j)*G=2 ^ (t-(j-1))*G:=by
         rw [show t-(j-1)=t-j+1 by omega,Nat.pow_succ,Nat.mul_assoc,Nat.mul_left_comm]
         omega
        have hF3:2 ^ (t-(j-1))*G<2 ^ 61:=Nat.lt_of_le_of_lt (Nat.mul_le_mul_right _ (Nat.pow_le_pow_right (by decide) (by omega))) HF.out
        rw [show (2:Nat) ^ 61=2305843009213693952 from rfl] at hF3
        obtain ⟨m,hm⟩:∃ m,2 ^ (t-(j-1))*G=m:=⟨_,rfl⟩
        rw [hm] at hF2 hF3
        have Hm:=Lib.hid hm
        clear hm
        generalize 2 ^ (t-j)*G=n at *
        have v1:IntKind.i64.wrap ((j:Int)-1)=((j-1:Nat):Int):=(IntWalk.i64_in _ (by omega)).trans (by omega)
        have HSm:=Lib.hid hF2
        have hn:n+n<9223372036854775808:=by omega
        have y0:=HS.out.by_.cell 0
        have y1:=HS.out.by_.cell 1
        simp only [zq1,zq2,zq3] at y0 y1
        clear hF2 hF3
        go_wp2_with fail
        refine (rfPlus n n _ hn).mono ?_
        rintro e w5 ⟨rfl,hb5⟩
        rw [HSm.out]
        have HS5:=Lib.hid (HS.out.grow hb5)
        clear y0 y1 hb5 HS
        have y0:=HS5.out.by_.cell 0
        have y1:=HS5.out.by_.cell 1
        have f0:=HS5.out.by_.frozen 0
        have f1:=HS5.out.by_.frozen 1
        simp only [zq1,zq2,zq3] at y0 y1
        have HS6:=Lib.hid (HS5.out.puty m)
        clear HS5
        go_wp2_with fail
        clear y0 y1 f0 f1
        go_roundw
        case rel => exact ⟨j-1,by omega,rfl,by rw [Hm.out];exact HS6⟩
        case measure => simp [intOf];omega
       ·obtain rfl:j=0:=by omega
        rw [Nat.sub_zero] at HS
        have y0:=HS.out.by_.cell 0
        have y1:=HS.out.by_.cell 1
        have r0:=HS.out.res.cell 0
        have r1:=HS.out.res.cell 1
        have f0:=HS.out.res.frozen 0
        have f1:=HS.out.res.frozen 1
        simp only [zq1,zq2,zq3] at y0 y1 r0 r1
        generalize hz:2 ^ t*G=z at *
        have HG2:Hid (Nat.gcd a b=z):=HG.out
        have hr:=((HS.out.res.set_ 0 (.int .u64 0)).set_ 1 (.int .u64 (z:Int)))
        have p0:=hr.cell 0
        have p1:=hr.cell 1
        have HB:=Lib.hid HS.out.bel
        clear hz hr HS HG
        go_wp2_with fail
        simp only [List.setIfInBounds_toArray,List.set_cons_zero,List.set_cons_succ,zq1,zq2,zq3] at p0 p1
        refine bodyPost_ret (v:=.agg #[.int .u64 0,.int .u64 (z:Int)]) (by simp [results,Tryz.results38,go_sem,p0,p1]) rfl ?_
        exact ⟨by unfold uV;rw [HG2.out],(HB.out.setCell (p:=⟨w.heap.size+1+1,0,none⟩) (by show w.heap.size≤w.heap.size+1+1;omega) _).setCell (p:=⟨w.heap.size+1+1,1,none⟩) (by show w.heap.size≤w.heap.size+1+1;omega) _⟩
     ·have e0:((x2:Int) == 0)=false:=beq_eq_false_iff_ne.2 (by omega)
      have e0n:((x2:Int) != 0)=true:=by rw [bne_iff_ne];omega
      have H0:Hid (0<x2):=Nat.pos_of_ne_zero h0
      clear h0
      go_wp2_with fail
      clear x0 x1 xb yb e0 e0n
      go_loopg [] x2 (fun gk wr => Hid (GU w wr gk y2)∧Hid (Stn (2 ^ 61) G gk y2)∧Hid (0<gk∧gk≤x2))
      case atStart => exact ⟨HS,HU,⟨H0.out,Nat.le_refl _⟩⟩
      case round =>
       clear HS HU H0
       obtain ⟨HS,HU,HR⟩:=hrel
       obtain ⟨x4,rfl⟩:∃ x4,x4=gk:=⟨_,rfl⟩
       have x0:=HS.out.bx.cell 0
       have x1:=HS.out.bx.cell 1
       simp only [zq1,zq2,zq3] at x0 x1
       have xb:x4<9223372036854775808:=Nat.lt_trans HU.out.xm (by decide)
       have hx1:=u64_even x4
       by_cases hev:x4 % 2=0
       ·rw [decide_eq_true hev] at hx1
        obtain ⟨p,hp⟩:∃ p,x4 / 2=p:=⟨_,rfl⟩
        have hU2:=HU.out.left hev
        rw [hp] at hU2
        have HU2:=Lib.hid hU2
        have HR2:Hid (0<p∧p≤x2):=by have:=HR.out;unfold Hid;omega
        have HM2:Hid (p<x4):=by have:=HR.out;unfold Hid;omega
        have Hp:=Lib.hid hp
        clear hev hp hU2 HU HR
        go_wp2_with fail
        refine (rfHalf _ _ xb).mono ?_
        rintro e w5 ⟨rfl,hb5⟩
        rw [Hp.out]
        have HS5:=Lib.hid (HS.out.grow hb5)
        clear x0 x1 hb5 HS hx1
        have x0:=HS5.out.bx.cell 0
        have x1:=HS5.out.bx.cell 1
        have f0:=HS5.out.bx.frozen 0
        have f1:=HS5.out.bx.frozen 1
        simp only [zq1,zq2,zq3] at x0 x1
        have HS6:=Lib.hid (HS5.out.putx p)
        clear HS5
        go_wp2_with fail
        clear x0 x1 f0 f1
        go_roundg p
        case rel => exact ⟨HS6,HU2,HR2⟩
        case measure => exact HM2.out
       ·rw [decide_eq_false hev] at hx1
        have HOd:Hid (x4 % 2=1):=by unfold Hid;omega
        clear hev xb
        go_wp2_with fail
        clear x0 x1 hx1
        go_loopg [] y2 (fun gk wr => Hid (GU w wr x4 gk)∧Hid (Stn (2 ^ 61) G x4 gk)∧Hid (gk≤y2))
        case atStart => exact ⟨HS,HU,Nat.le_refl _⟩
        case round =>
         clear HS HU
         obtain ⟨HS,HU,HY⟩:=hrel
         obtain ⟨y4,rfl⟩:∃ y4,y4=gk:=⟨_,rfl⟩
         have y0:=HS.out.by_.cell 0
         have y1:=HS.out.by_.cell 1
         simp only [zq1,zq2,zq3] at y0 y1
         have yb:y4<9223372036854775808:=Nat.lt_trans HU.out.ym (by decide)
         have xb:x4<9223372036854775808:=Nat.lt_trans HU.out.xm (by decide)
         have hy1:=u64_even y4
         by_cases hev:y4 % 2=0
         ·rw [decide_eq_true hev] at hy1
          obtain ⟨p,hp⟩:∃ p,y4 / 2=p:=⟨_,rfl⟩
          have hU2:=HU.out.right HOd.out hev
          rw [hp] at hU2
          have HU2:=Lib.hid hU2
          have HY2:Hid (p≤y2):=by have:=HY.out;unfold Hid;omega
          have HM2:Hid (p<y4):=by have:=HU.out.y0;unfold Hid;omega
          have Hp:=Lib.hid hp
          clear hev hp hU2 HU HY xb
          go_wp2_with fail
          refine (rfHalf _ _ yb).mono ?_
          rintro e w5 ⟨rfl,hb5⟩
          rw [Hp.out]
          have HS5:=Lib.hid (HS.out.grow hb5)
          clear y0 y1 hb5 HS hy1
          have y0:=HS5.out.by_.cell 0
          have y1:=HS5.out.by_.cell 1
          have f0:=HS5.out.by_.frozen 0
          have f1:=HS5.out.by_.frozen 1
          simp only [zq1,zq2,zq3] at y0 y1
          have HS6:=Lib.hid (HS5.out.puty p)
          clear HS5
          go_wp2_with fail
          clear y0 y1 f0 f1
          go_roundg p
          case rel => exact ⟨HS6,HU2,HY2⟩
          case measure => exact HM2.out
         ·rw [decide_eq_false hev] at hy1
          have HOy:Hid (y4 % 2=1):=by unfold Hid;omega
          have x0:=HS.out.bx.cell 0
          have x1:=HS.out.bx.cell 1
          simp only [zq1,zq2,zq3] at x0 x1
          clear hev
          go_wp2_with fail
          refine (rfLess x4 y4 _).mono ?_
          rintro e w7 ⟨rfl,hb7⟩
          have HS7:=Lib.hid (HS.out.grow hb7)
          clear x0 x1 y0 y1 hb7 HS hy1
          have x0:=HS7.out.bx.cell 0
          have x1:=HS7.out.bx.cell 1
          have y0:=HS7.out.by_.cell 0
          have y1:=HS7.out.by_.cell 1
          simp only [zq1,zq2,zq3] at x0 x1 y0 y1
          by_cases hlt:x4<y4
          ·rw [decide_eq_true hlt]
           have HLe:=Lib.hid (Nat.le_of_lt hlt)
           have HU7:=Lib.hid ((HU.out.swap HOd.out).diff HOd.out (Nat.le_of_lt hlt))
           have HM:Hid (y4-x4+x4<x2+y2):=by have:=HR.out;have:=HY.out;unfold Hid;omega
           have f0:=HS7.out.bx.frozen 0
           have f1:=HS7.out.bx.frozen 1
           have g0:=HS7.out.by_.frozen 0
           have g1:=HS7.out.by_.frozen 1
           have HS8:=Lib.hid ((HS7.out.putx y4).puty x4)
           clear hlt HU HS7
           go_upto_region 13 with fail
           generalize (((w7.setCell ⟨w.heap.size,0,none⟩ (.int .u64 0)).setCell ⟨w.heap.size,1,none⟩ (.int .u64 (y4:Int))).setCell ⟨w.heap.size+1,0,none⟩ (.int .u64 0)).setCell ⟨w.heap.size+1,1,none⟩ (.int .u64 (x4:Int))=w8 at *
           clear x0 x1 y0 y1 f0 f1 g0 g1
           have x0:=HS8.out.bx.cell 0
           have x1:=HS8.out.bx.cell 1
           have y0:=HS8.out.by_.cell 0
           have y1:=HS8.out.by_.cell 1
           simp only [zq1,zq2,zq3] at x0 x1 y0 y1
           go_wp2_with fail
           refine (rfMinus y4 x4 _ yb HLe.out).mono ?_
           rintro e w9 ⟨rfl,hb9⟩
           have HS9:=Lib.hid (HS8.out.grow hb9)
           clear x0 x1 y0 y1 hb9 HS8
           generalize y4-x4=d at *
           have x0:=HS9.out.bx.cell 0
           have x1:=HS9.out.bx.cell 1
           have f0:=HS9.out.bx.frozen 0
           have f1:=HS9.out.bx.frozen 1
           simp only [zq1,zq2,zq3] at x0 x1
           have HS10:=Lib.hid (HS9.out.putx d)
           clear HS9
           go_wp2_with fail
           clear x0 x1 f0 f1
           go_roundg (d+x4)
           case rel => exact ⟨d,x4,rfl,HS10,HU7⟩
           case measure => exact HM.out
          ·rw [decide_eq_false hlt]
           have HLe:=Lib.hid (Nat.not_lt.1 hlt)
           have HU7:=Lib.hid (HU.out.diff HOy.out (Nat.not_lt.1 hlt))
           have HM:Hid (x4-y4+y4<x2+y2):=by have:=HR.out;have:=HY.out;have:=HU.out.y0;unfold Hid;omega
           clear hlt HU
           go_wp2_with fail
           refine (rfMinus x4 y4 _ xb HLe.out).mono ?_
           rintro e w9 ⟨rfl,hb9⟩
           have HS9:=Lib.hid (HS7.out.grow hb9)
           clear x0 x1 y0 y1 hb9 HS7
           generalize x4-y4=d at *
           have x0:=HS9.out.bx.cell 0
           have x1:=HS9.out.bx.cell 1
           have f0:=HS9.out.bx.frozen 0
           have f1:=HS9.out.bx.frozen 1
           simp only [zq1,zq2,zq3] at x0 x1
           have HS10:=Lib.hid (HS9.out.putx d)
           clear HS9
           go_wp2_with fail
           clear x0 x1 f0 f1
           go_roundg (d+y4)
           case rel => exact ⟨d,y4,rfl,HS10,HU7⟩
           case measure => exact HM.out
theorem good_of {n d:Int} (h1:¬ d<1) (h2:¬ 1152921504606846976<d) (h3:¬ n < -1152921504606846976) (h4:¬ 1152921504606846976<n):frGood ⟨n,d⟩=(((Nat.gcd n.natAbs d.natAbs:Nat):Int) == 1):=by
 unfold frGood
 simp only []
 rw [decide_eq_true (show 1≤d by omega),decide_eq_true (show d≤1152921504606846976 by omega),decide_eq_true (show -1152921504606846976≤n by omega),decide_eq_true (show n≤1152921504606846976 by omega)]
 rfl
theorem good_no {n d:Int} (h:d<1∨1152921504606846976<d∨n < -1152921504606846976∨1152921504606846976<n):frGood ⟨n,d⟩=false:=by
 unfold frGood
 simp only []
 rcases h with h | h | h | h
 ·rw [decide_eq_false (show ¬ 1≤d by omega)]
  rfl
 ·rw [decide_eq_false (show ¬ d≤1152921504606846976 by omega),Bool.and_false]
  rfl
 ·rw [decide_eq_false (show ¬ -1152921504606846976≤n by omega),Bool.and_false]
  rfl
 ·rw [decide_eq_false (show ¬ n≤1152921504606846976 by omega),Bool.and_false]
  rfl
theorem size_g (n:Int) (w:World) (h1 : -1152921504606846976≤n) (h2:n≤1152921504606846976):Calls Tryz.prog 39 #[.int .i64 n] w fun e w' => ∃ v,e = .returned v∧Below w.heap.size w w'∧(gCs (.int .u64 (n.natAbs:Nat))).σ v∧(gCs (.int .u64 (n.natAbs:Nat))).φ v w' :=
 (rgSize n w h1 h2).mono fun _ _ hp => by
  obtain ⟨he,hw⟩:=hp
  subst hw
  exact ⟨_,he,Below.refl _ _,rfl,trivial⟩
theorem gcd_g {f:FuncId} {args:Array Value} {u:Value} {w:World} (h:Calls Tryz.prog f args w fun e w' => e = .returned u∧Below w.heap.size w w'):Calls Tryz.prog f args w fun e w' => ∃ v,e = .returned v∧Below w.heap.size w w'∧(gCs u).σ v∧(gCs u).φ v w' :=
 h.mono fun _ _ hp => ⟨_,hp.1,hp.2,rfl,trivial⟩
set_option maxRecDepth 100000 in
set_option maxHeartbeats 4000000 in
theorem rfValid (x:FrT) (w:World):Calls Tryz.prog 17 #[x.val] w fun e w' => e = .returned (.bool (frGood x))∧Below w.heap.size w w':=by
 obtain ⟨n,d⟩:=x
 have HB:=Lib.hid ((Below.refl _ w).alloc (Nat.le_refl _) (.cells #[.int .i64 n,.int .i64 d] 37))
 have HD:=Lib.hid (Blk.new w 37 #[.int .i64 n,.int .i64 d])
 go_enter Tryz.func17,Tryz.ntmps17
 go_upto_region 1 with fail
 generalize w.alloc (.cells #[.int .i64 n,.int .i64 d] 37)=W1 at *
 have y0:=HD.out.cell 0
 have y1:=HD.out.cell 1
 simp only [zq1,zq2,zq3] at y0 y1
 by_cases c0:d<1
 ·have d0:decide (d<1)=true:=decide_eq_true c0
  have HV:Hid (frGood ⟨n,d⟩=false):=good_no (.inl c0)
  go_wp2_with fail
  go_ret
  exact ⟨ret_bool HV.out.symm,HB.out⟩
 have d0:decide (d<1)=false:=decide_eq_false c0
 by_cases c1:1152921504606846976<d
 ·have d1:decide (1152921504606846976<d)=true:=decide_eq_true c1
  have HV:Hid (frGood ⟨n,d⟩=false):=good_no (.inr (.inl c1))
  go_wp2_with fail
  go_ret
  exact ⟨ret_bool HV.out.symm,HB.out⟩
 have d1:decide (1152921504606846976<d)=false:=decide_eq_false c1
 by_cases c2:n < -1152921504606846976
 ·have d2:decide (n < -1152921504606846976)=true:=decide_eq_true c2
  have HV:Hid (frGood ⟨n,d⟩=false):=good_no (.inr (.inr (.inl c2)))
  go_wp2_with fail
  go_ret
  exact ⟨ret_bool HV.out.symm,HB.out⟩
 have d2:decide (n < -1152921504606846976)=false:=decide_eq_false c2
 by_cases c3:1152921504606846976<n
 ·have d3:decide (1152921504606846976<n)=true:=decide_eq_true c3
  have HV:Hid (frGood ⟨n,d⟩=false):=good_no (.inr (.inr (.inr c3)))
  go_wp2_with fail
  go_ret
  exact ⟨ret_bool HV.out.symm,HB.out⟩
 have d3:decide (1152921504606846976<n)=false:=decide_eq_false c3
 have HV:=Lib.hid (good_of c0 c1 c2 c3)
 have hn1 : -1152921504606846976≤n:=by omega
 have hn2:n≤1152921504606846976:=by omega
 have hd1 : -1152921504606846976≤d:=by omega
 have hd2:d≤1152921504606846976:=by omega
 have HGc:=Lib.hid (fun W => rfGcd n.natAbs d.natAbs W (by omega) (by omega) (by omega))
 clear c0 c1 c2 c3
 go_upto_region 3 with fail
 have uy0:=HeldB.cell y0
 have uy1:=HeldB.cell y1
 clear y0 y1
 refine wp_region_grow 10 (fun jx => if jx=2 then some (gCs (.int .u64 (n.natAbs:Nat))) else if jx=6 then some (gCs (.int .u64 (d.natAbs:Nat))) else if jx=8 then some (gCs (uV (Nat.gcd n.natAbs d.natAbs))) else none) (by kernel_rfl) (by kernel_rfl) ?_
 simp only [List.take_succ_cons,List.take_zero,List.drop_succ_cons,List.drop_zero]
 refine wpG_quiet 2 (by kernel_rfl) (by rfl) (by decide) ?_
 simp only [List.take_succ_cons,List.take_zero,List.drop_succ_cons,List.drop_zero]
 repeat (go_big_quiet_step (fail))
 refine wpQuiet_nil ?_
 refine wpG_call rfl rfl ?_ ?_
 ·intro w1 hb1 hk
  have hC:=size_g n w1 hn1 hn2
  exact ⟨39,#[.int .i64 n],by go_simp,hC⟩
 rintro _ rfl
 simp only [Act.put,List.setIfInBounds_toArray,List.set_cons_zero,List.set_cons_succ]
 refine wpG_quiet 3 (by kernel_rfl) (by rfl) (by decide) ?_
 simp only [List.take_succ_cons,List.take_zero,List.drop_succ_cons,List.drop_zero]
 repeat (go_big_quiet_step (fail))
 refine wpQuiet_nil ?_
 refine wpG_call rfl rfl ?_ ?_
 ·intro w1 hb1 hk
  have hC:=size_g d w1 hd1 hd2
  exact ⟨39,#[.int .i64 d],by go_simp,hC⟩
 rintro _ rfl
 simp only [Act.put,List.setIfInBounds_toArray,List.set_cons_zero,List.set_cons_succ]
 refine wpG_quiet 1 (by kernel_rfl) (by rfl) (by decide) ?_
 simp only [List.take_succ_cons,List.take_zero,List.drop_succ_cons,List.drop_zero]
 repeat (go_big_quiet_step (fail))
 refine wpQuiet_nil ?_
 refine wpG_call rfl rfl ?_ ?_
 ·intro w1 hb1 hk
  have hC:=gcd_g (HGc.out w1)
  exact ⟨38,#[uV n.natAbs,uV d.natAbs],by go_simp,hC⟩
 rintro _ rfl
 simp only [Act.put,List.setIfInBounds_toArray,List.set_cons_zero,List.set_cons_succ]
 refine wpG_quiet 1 (by kernel_rfl) (by rfl) (by decide) ?_
 simp only [List.take_succ_cons,List.take_zero,List.drop_succ_cons,List.drop_zero]
 repeat (go_big_quiet_step (fail))
 refine wpQuiet_nil ?_
 refine wpG_nil ?_
 intro w8 hb8 hF
 have HB8:=Lib.hid (HB.out.trans (hb8.mono HB.out.size))
 clear hF hb8 uy0 uy1 HGc
 generalize Nat.gcd n.natAbs d.natAbs=g at *
 obtain ⟨q,hq⟩:∃ q,((g:Int) == 1)=q:=⟨_,rfl⟩
 rw [hq] at HV
 cases q
 all_goals
  go_wp2_with fail
  go_ret
  exact ⟨ret_bool HV.out.symm,HB8.out⟩
set_option maxHeartbeats 1000000 in
theorem rfAll (v:Value) (l:List FrT) (w:World) (hv:FrsAt w w.heap.size v l):Calls Tryz.prog 7 #[v] w fun e w' => e = .returned (.bool (allGood l))∧Below w.heap.size w w':=by
 obtain ⟨Af,cf,rfl,hc1,hc2,hcell⟩:=hv.open_
 unfold maxLen at hc2
 have HC:=Lib.hid hcell
 clear hv hcell
 go_enter Tryz.func7,Tryz.ntmps7
 go_wp2_with fail
 go_loopw [3] (fun x wr => ∃ k:Nat,k≤l.length∧x = .int .i64 k∧Hid (allGood (l.take k)=true)∧Hid (Below w.heap.size w wr)) (fun x _ => l.length-(intOf x).toNat)
 case atStart => exact ⟨0,Nat.zero_le _,rfl,rfl,Below.refl _ _⟩
 case round =>
  obtain ⟨k,hk,rfl,HA,HB⟩:=hrel
  have i1:(0:Int)≤(k:Int):=Int.natCast_nonneg _
  by_cases hlt:k<l.length
  ·have i2:(k:Int)<(l.length:Int):=by omega
   obtain ⟨b,o,rfl,hb,hcs⟩:=HC.out k hlt
   obtain ⟨x0,x1⟩:=hcs k hlt
   have x0:=(HB.out.cell (p:=⟨b,o+k*2,none⟩) hb).trans x0
   have x1:=(HB.out.cell (p:=⟨b,o+k*2+1,none⟩) hb).trans x1
   have HNo:Hid (frGood l[k]=false→allGood l=false):=fun h => by
    unfold allGood
    rw [List.all_eq_false]
    exact ⟨l[k],List.getElem_mem hlt,by rw [h];decide⟩
   have HYe:Hid (frGood l[k]=true→allGood (l.take (k+1))=true):=fun h => by
    have h1:=HA.out
    unfold allGood at h1 ⊢
    rw [take_snoc l k hlt,List.all_append,h1]
    simpa using h
   clear hcs
   generalize l[k]=x at *
   go_wp2_with fail
   refine (rfValid x _).mono ?_
   rintro e w5 ⟨rfl,hb5⟩
   have HB5:=Lib.hid (HB.out.trans (hb5.mono HB.out.size))
   clear hb5 x0 x1 HB
   cases hg:frGood x with
   | true =>
    have HV:=Lib.hid (HYe.out hg)
    clear hg
    go_wp2_with fail
    go_roundw
    case rel => exact ⟨k+1,hlt,by go_num,HV,HB5⟩
    case measure => simp [intOf];omega
   | false =>
    have HV:=Lib.hid (HNo.out hg)
    clear hg
    go_wp2_with fail
    go_ret
    exact ⟨ret_bool HV.out.symm,HB5.out⟩
  ·obtain rfl:k=l.length:=by omega
   rw [List.take_length] at HA
   go_wp2_with fail
   go_ret
   exact ⟨ret_bool HA.out.symm,HB.out⟩
end Go.Proofs.YtfhmbechennkbaaGreat
