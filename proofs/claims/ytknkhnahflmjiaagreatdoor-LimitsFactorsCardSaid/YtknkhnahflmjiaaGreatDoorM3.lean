/- Parts of the proof, laid into one text: RefCmp, R2o, R2v, R23, LawFactors. -/
import Derived.BigQuiet
import Derived.Deep.AppendLies
import Derived.Deep.DeepCutAuto
import Derived.Deep.Draws
import Derived.Deep.LoopGhost
import Derived.Deep.QuietTactic
import Derived.Deep.RegionHeld3
import Derived.Deep.RegionLaw
import Derived.IntWalk
import Derived.Laws.AppendOwnNone
import Derived.Laws.Bits64b
import Derived.Lib.Hide
import Derived.Lib.ItoaNum
import Derived.LoopIn
import Derived.LoopNIn
import Derived.Maps.AppendAt
import Derived.Maps.Own
import Derived.Maps.OwnOps
import Derived.Maps.OwnSet
import Derived.Maps.Views
import Derived.Outline
import Derived.OwnWalkIn
import Derived.PlainAid
import Derived.RangeFuncBox
import Derived.RangeFuncLeaves
import Derived.Shelf.Abstract
import Derived.Shelf.Bits.Mul64
import Derived.Shelf.Small.Bits
import Derived.Shelf.Spec.BitsCarry
import Derived.Shelf.Spec.SlicesGrow
import Derived.Shelf.Strconv.Itoa3
import Derived.StillTail
import Derived.StillTailTactics
import Derived.TacticsInMore
import Derived.Test.YtknkhnahflmjiaaGreatDoorC1
import Derived.Test.YtknkhnahflmjiaaGreatDoorC2
import Derived.Test.YtknkhnahflmjiaaGreatDoorC3
import Derived.Test.YtknkhnahflmjiaaGreatDoorC4
import Derived.Test.YtknkhnahflmjiaaGreatDoorC5
import Derived.Test.YtknkhnahflmjiaaGreatDoorC6
import Derived.Test.YtknkhnahflmjiaaGreatDoorC7
import Derived.Test.YtknkhnahflmjiaaGreatDoorD1
import Derived.Test.YtknkhnahflmjiaaGreatDoorD2
import Derived.Test.YtknkhnahflmjiaaGreatDoorD3
import Derived.Test.YtknkhnahflmjiaaGreatDoorD4
import Derived.Test.YtknkhnahflmjiaaGreatDoorG1
import Derived.Test.YtknkhnahflmjiaaGreatDoorL1
import Derived.Test.YtknkhnahflmjiaaGreatDoorL2
import Derived.Test.YtknkhnahflmjiaaGreatDoorL3
import Derived.Test.YtknkhnahflmjiaaGreatDoorL4
import Derived.Test.YtknkhnahflmjiaaGreatDoorL5
import Derived.Test.YtknkhnahflmjiaaGreatDoorL6
import Derived.Test.YtknkhnahflmjiaaGreatDoorL7
import Derived.Test.YtknkhnahflmjiaaGreatDoorL8
import Derived.Test.YtknkhnahflmjiaaGreatDoorM1
import Derived.Test.YtknkhnahflmjiaaGreatDoorM2
import Derived.Test.YtknkhnahflmjiaaGreatDoorProg
import Derived.WalkKit
import Derived.WalkLawsBesides
import Derived.WalkSpells

namespace Go.Proofs.YtknkhnahflmjiaaGreatDoor
open Go.RowKit Go.Shelf
theorem mul_lo (x y : Nat) : (x % 4294967296 * (y / 4294967296) + (x / 4294967296 * (y % 4294967296) + x % 4294967296 * (y % 4294967296) / 4294967296) % 4294967296) * 4294967296 % 18446744073709551616 + x % 4294967296 * (y % 4294967296) % 4294967296 = x * y % 18446744073709551616 := by
 have e : x * y = (x / 4294967296) * (y / 4294967296) * (4294967296 * 4294967296) + ((x / 4294967296) * (y % 4294967296) + (x % 4294967296) * (y / 4294967296)) * 4294967296 + (x % 4294967296) * (y % 4294967296) := by
  rw [← Lib.split_mul,Nat.div_add_mod' x 4294967296,Nat.div_add_mod' y 4294967296]
 rw [e]
 generalize x / 4294967296 * (y / 4294967296) = p
 generalize x / 4294967296 * (y % 4294967296) = q
 generalize x % 4294967296 * (y / 4294967296) = r
 generalize x % 4294967296 * (y % 4294967296) = s
 omega
set_option maxHeartbeats 1000000 in
theorem refSize (n : Int) (w : World) (h1 : -1152921504606846976 ≤ n) (h2 : n ≤ 1152921504606846976) :
  Calls Tryz.prog 95 #[.int .i64 n] w fun e w' => e = .returned (.int .u64 (n.natAbs : Nat)) ∧ w = w' := by
 by_cases h0 : n < 0
 ·have e1 : IntKind.u64.wrap n = n + 18446744073709551616 := by
   show n % 18446744073709551616 = _
   omega
  have e2 : Hid (IntKind.u64.wrap (0 - (n + 18446744073709551616)) = ((n.natAbs : Nat) : Int)) := by
   show (0 - (n + 18446744073709551616)) % 18446744073709551616 = _
   omega
  clear h1 h2
  go_enter Tryz.func95,Tryz.ntmps95
  go_wp2
  go_ret
  refine ⟨?_,rfl⟩
  rw [← e2.out,Int.zero_sub]
  rfl
 ·have e1 : Hid (IntKind.u64.wrap n = ((n.natAbs : Nat) : Int)) := by
   show n % 18446744073709551616 = _
   omega
  clear h1 h2
  go_enter Tryz.func95,Tryz.ntmps95
  go_wp2
  go_ret
  refine ⟨?_,rfl⟩
  rw [← e1.out]
  rfl
set_option maxHeartbeats 2000000 in
theorem refMul (x y : Nat) (hx : x < 18446744073709551616) (hy : y < 18446744073709551616) (w : World) :
  Calls Tryz.prog 98 #[.int .u64 x,.int .u64 y] w fun e w' => e = .returned (wideV (x * y)) ∧ Below w.heap.size w w' := by
 obtain ⟨bd,bt,bw,hhi⟩ := Lib.mul64_hi x y hx hy
 have hlo := mul_lo x y
 have ba := Lib.half_mul_le (a := x / 4294967296) (b := y / 4294967296) (by omega) (by omega)
 have bb := Lib.half_mul_le (a := x / 4294967296) (b := y % 4294967296) (by omega) (by omega)
 have bc := Lib.half_mul_le (a := x % 4294967296) (b := y / 4294967296) (by omega) (by omega)
 have ba' : x / 4294967296 * (y / 4294967296) < 18446744073709551616 := by omega
 have bb' : x / 4294967296 * (y % 4294967296) < 18446744073709551616 := by omega
 have bc' : x % 4294967296 * (y / 4294967296) < 18446744073709551616 := by omega
 have HB := Lib.hid ((Below.refl _ w).alloc (Nat.le_refl _) (.cells #[.int .u64 0,.int .u64 0] 133))
 go_enter Tryz.func98,Tryz.ntmps98
 have bw' : (x % 4294967296 * (y / 4294967296) + (x / 4294967296 * (y % 4294967296) + x % 4294967296 * (y % 4294967296) / 4294967296) % 4294967296) < 18446744073709551616 := by omega
 have hhi' : x / 4294967296 * (y / 4294967296) + (x / 4294967296 * (y % 4294967296) + x % 4294967296 * (y % 4294967296) / 4294967296) / 4294967296 + (x % 4294967296 * (y / 4294967296) + (x / 4294967296 * (y % 4294967296) + x % 4294967296 * (y % 4294967296) / 4294967296) % 4294967296) / 4294967296 = x * y / 18446744073709551616 := by
  rw [Nat.add_comm (x % 4294967296 * (y / 4294967296))]
  exact hhi
 have bh1 : x / 4294967296 * (y / 4294967296) + (x / 4294967296 * (y % 4294967296) + x % 4294967296 * (y % 4294967296) / 4294967296) / 4294967296 < 18446744073709551616 := by omega
 have bh : x / 4294967296 * (y / 4294967296) + (x / 4294967296 * (y % 4294967296) + x % 4294967296 * (y % 4294967296) / 4294967296) / 4294967296 + (x % 4294967296 * (y / 4294967296) + (x / 4294967296 * (y % 4294967296) + x % 4294967296 * (y % 4294967296) / 4294967296) % 4294967296) / 4294967296 < 18446744073709551616 := by omega
 have hsm : (x % 4294967296 * (y / 4294967296) + (x / 4294967296 * (y % 4294967296) + x % 4294967296 * (y % 4294967296) / 4294967296) % 4294967296) * 4294967296 % 18446744073709551616 + x % 4294967296 * (y % 4294967296) % 4294967296 < 18446744073709551616 := by
  rw [hlo]
  exact Nat.mod_lt _ (by decide)
 clear hhi bw
 go_wp2
 have hL : IntKind.u64.wrap (IntKind.u64.wrap ((((x % 4294967296 * (y / 4294967296) + (x / 4294967296 * (y % 4294967296) + x % 4294967296 * (y % 4294967296) / 4294967296) % 4294967296) : Nat) : Int) * 4294967296) + ((x % 4294967296 * (y % 4294967296) % 4294967296 : Nat) : Int)) = ((x * y % 18446744073709551616 : Nat) : Int) := by
  rw [show (((x % 4294967296 * (y / 4294967296) + (x / 4294967296 * (y % 4294967296) + x % 4294967296 * (y % 4294967296) / 4294967296) % 4294967296) : Nat) : Int) * 4294967296 = (((x % 4294967296 * (y / 4294967296) + (x / 4294967296 * (y % 4294967296) + x % 4294967296 * (y % 4294967296) / 4294967296) % 4294967296) * 4294967296 : Nat) : Int) from (Int.natCast_mul _ 4294967296).symm,Mul64.wrapM,Mul64.addN,hlo]
  exact Mul64.wrapN _ (Nat.mod_lt _ (by decide))
 simp only [Mul64.maskN x hx,Mul64.maskN y hy,Mul64.divN,Mul64.mulN,Mul64.addN,Mul64.wrapN _ bd,Mul64.wrapN _ bb',Mul64.wrapN _ bt,Mul64.maskN _ bt,Mul64.maskN _ bd,Mul64.wrapN _ bc',Mul64.wrapN _ bw',Mul64.wrapN _ ba',Mul64.wrapN _ bh1,Mul64.wrapN _ bh]
 simp only [hL,hhi']
 unfold wideV
 clear hL hhi' hlo bd bt bw' ba bb bc ba' bb' bc' bh1 bh hsm
 generalize ((x * y / 18446744073709551616 : Nat) : Int) = h
 generalize ((x * y % 18446744073709551616 : Nat) : Int) = l
 refine bodyPost_ret (v := .agg #[.int .u64 h,.int .u64 l]) (by simp [results,Tryz.results98,go_sem]) rfl ?_
 exact ⟨rfl,(Below.refl _ _).alloc (Nat.le_refl _) _⟩
end Go.Proofs.YtknkhnahflmjiaaGreatDoor

namespace Go.Proofs.YtknkhnahflmjiaaGreatDoor
open Go.RowKit Go.Shelf
theorem made_q {q : Rat} {N D : Nat} {neg : Bool} (hD : 0 < D) (hq : q = mkRat (if neg = true then -(N : Int) else (N : Int)) D) : fracV q = signV neg (N / N.gcd D) (D / N.gcd D) := by
 by_cases h0 : N = 0
 ·subst h0
  have e : (if neg = true then -((0 : Nat) : Int) else ((0 : Nat) : Int)) = 0 := by cases neg <;> rfl
  rw [e,Rat.zero_mkRat] at hq
  rw [hq,Nat.gcd_zero_left,Nat.zero_div,Nat.div_self hD]
  cases neg <;> rfl
 ·have hD0 : D ≠ 0 := by omega
  have hx : (if neg = true then -(N : Int) else (N : Int)).natAbs = N := by cases neg <;> simp
  have hg := ediv_abs (a := if neg = true then -(N : Int) else (N : Int)) (g := N.gcd D) (Nat.gcd_pos_of_pos_right _ hD) (by rw [hx];exact Nat.gcd_dvd_left _ _)
  rw [mkRat,dif_neg hD0,Rat.normalize_eq] at hq
  simp only [hx] at hq
  rw [hx] at hg
  refine frac_sign ?_ ?_ ?_
  ·rw [hq];exact hg.1
  ·rw [hq]
  ·rw [hq,hg.2.1]
   cases neg with
   | true => first | (simp;done) | (simp;omega)
   | false => first | (simp;done) | (simp;omega)
theorem usize_g {n : Int} (w : World) (h1 : -1152921504606846976 ≤ n) (h2 : n ≤ 1152921504606846976) :
  Calls Tryz.prog 95 #[.int .i64 n] w fun e w' => ∃ v,e = .returned v ∧ Below w.heap.size w w' ∧ (gV (.int .u64 (n.natAbs : Nat))).σ v ∧ (gV (.int .u64 (n.natAbs : Nat))).φ v w' :=
 (refSize n w h1 h2).mono fun _ _ ⟨he,hw⟩ => ⟨_,he,hw ▸ Below.refl _ _,rfl,trivial⟩
theorem umul_g {x y : Nat} (w : World) (hx : x < 18446744073709551616) (hy : y < 18446744073709551616) :
  Calls Tryz.prog 98 #[.int .u64 x,.int .u64 y] w fun e w' => ∃ v,e = .returned v ∧ Below w.heap.size w w' ∧ (gV (uW (x * y))).σ v ∧ (gV (uW (x * y))).φ v w' :=
 (refMul x y hx hy w).mono fun _ _ ⟨he,hb⟩ => ⟨_,he,hb,rfl,trivial⟩
theorem signW_form (neg : Bool) (n d : Nat) : ∃ x y z : Int,signV neg n d = .tuple #[.agg #[.int .i64 x,.int .i64 y],.int .i64 z] := by
 unfold signV
 by_cases h : n ≤ 1152921504606846976 ∧ d ≤ 1152921504606846976
 ·exact ⟨_,_,_,if_pos h⟩
 ·exact ⟨_,_,_,if_neg h⟩
theorem nat_60 {x y : Nat} (hx : x ≤ 1152921504606846976) (hy : y ≤ 1152921504606846976) : x * y < 2 ^ 127 := Nat.lt_of_le_of_lt (Nat.mul_le_mul hx hy) (by decide)
set_option maxRecDepth 100000 in
set_option maxHeartbeats 1000000 in
theorem rfOverW (a b : FrT) (w : World) (ha : frGood a = true) (hb : frGood b = true) (h0 : b.num ≠ 0) :
  Calls Tryz.prog 52 #[a.val,b.val] w fun e w' => e = .returned (fracV (qOf a / qOf b)) ∧ Below w.heap.size w w' := by
 obtain ⟨a1,a2,a3,a4⟩ := good_bd ha
 obtain ⟨b1,b2,b3,b4⟩ := good_bd hb
 obtain ⟨s1,ds1⟩ : ∃ s1,decide (a.num < 0) = s1 := ⟨_,rfl⟩
 obtain ⟨s2,ds2⟩ : ∃ s2,decide (b.num < 0) = s2 := ⟨_,rfl⟩
 have hN : a.num.natAbs * b.den.natAbs < 2 ^ 127 := nat_60 (by omega) (by omega)
 have hD : a.den.natAbs * b.num.natAbs < 2 ^ 127 := nat_60 (by omega) (by omega)
 have hD0 : 0 < a.den.natAbs * b.num.natAbs := Nat.mul_pos (by omega) (by omega)
 have hq : fracV (qOf a / qOf b) = _ := made_q (N := a.num.natAbs * b.den.natAbs) (D := a.den.natAbs * b.num.natAbs) (neg := s1 != s2) hD0 (by
  rw [Rat.div_def,← (inv_fr hb h0).2]
  unfold invF
  unfold qOf
  by_cases c2 : b.num < 0
  ·rw [if_pos c2]
   simp only
   rw [Rat.mkRat_mul_mkRat]
   congr 1
   ·rw [← ds1,← ds2,Int.natCast_mul,show (b.den.natAbs : Int) = b.den by omega]
    by_cases c1 : a.num < 0
    ·simp only [c1,c2,decide_true,bne_self_eq_false,Bool.false_eq_true,if_false]
     rw [show (a.num.natAbs : Int) = -a.num by omega,Int.neg_mul,Int.mul_neg]
    ·simp only [c1,c2,decide_true,decide_false,Bool.false_bne,if_true]
     rw [show (a.num.natAbs : Int) = a.num by omega,Int.mul_neg]
   ·rw [Int.natAbs_neg]
  ·rw [if_neg c2]
   simp only
   rw [Rat.mkRat_mul_mkRat]
   congr 1
   rw [← ds1,← ds2,Int.natCast_mul,show (b.den.natAbs : Int) = b.den by omega]
   by_cases c1 : a.num < 0
   ·simp only [c1,c2,decide_true,decide_false,Bool.true_bne,Bool.not_false,if_true]
    rw [show (a.num.natAbs : Int) = -a.num by omega,Int.neg_mul,Int.neg_neg]
   ·simp only [c1,c2,decide_false,bne_self_eq_false,Bool.false_eq_true,if_false]
    rw [show (a.num.natAbs : Int) = a.num by omega])
 have HM := Lib.hid fun W => rfMadeW _ _ (s1 != s2) W hN hD0 hD
 obtain ⟨fx,fy,fz,hv⟩ := signW_form (s1 != s2) (a.num.natAbs * b.den.natAbs / (a.num.natAbs * b.den.natAbs).gcd (a.den.natAbs * b.num.natAbs)) (a.den.natAbs * b.num.natAbs / (a.num.natAbs * b.den.natAbs).gcd (a.den.natAbs * b.num.natAbs))
 rw [hv] at HM hq
 rw [hq]
 clear hq hv hN hD hD0
 have HS1 := Lib.hid fun W => usize_g (n := a.num) W (by omega) (by omega)
 have HS2 := Lib.hid fun W => usize_g (n := b.den) W (by omega) (by omega)
 have HS3 := Lib.hid fun W => usize_g (n := a.den) W (by omega) (by omega)
 have HS4 := Lib.hid fun W => usize_g (n := b.num) W (by omega) (by omega)
 have HP1 := Lib.hid fun W => umul_g (x := a.num.natAbs) (y := b.den.natAbs) W (by omega) (by omega)
 have HP2 := Lib.hid fun W => umul_g (x := a.den.natAbs) (y := b.num.natAbs) W (by omega) (by omega)
 clear ha hb a1 a2 a3 a4 b1 b2 b3 b4
 obtain ⟨an,ad⟩ := a
 obtain ⟨bn,bd⟩ := b
 simp only at *
 generalize an.natAbs * bd.natAbs = N at *
 generalize ad.natAbs * bn.natAbs = D at *
 have D0 := ((Blk.new w 23 #[.int .i64 an,.int .i64 ad]).alloc (.cells #[.int .i64 bn,.int .i64 bd] 23)).alloc (.cells #[.int .i64 0,.int .i64 0] 23)
 have D1 := (Blk.new (w.alloc (.cells #[.int .i64 an,.int .i64 ad] 23)) 23 #[.int .i64 bn,.int .i64 bd]).alloc (.cells #[.int .i64 0,.int .i64 0] 23)
 have D2 := Blk.new ((w.alloc (.cells #[.int .i64 an,.int .i64 ad] 23)).alloc (.cells #[.int .i64 bn,.int .i64 bd] 23)) 23 #[.int .i64 0,.int .i64 0]
 have hB := below3W w (.cells #[.int .i64 an,.int .i64 ad] 23) (.cells #[.int .i64 bn,.int .i64 bd] 23) (.cells #[.int .i64 0,.int .i64 0] 23)
 simp only [World.size_alloc] at D1 D2
 have D0 := Lib.hid D0
 have D1 := Lib.hid D1
 have D2 := Lib.hid D2
 have HB := Lib.hid hB
 clear hB
 go_enter Tryz.func52,Tryz.ntmps52
 go_upto_region 1 with fail
 generalize (((w.alloc (.cells #[.int .i64 an,.int .i64 ad] 23)).alloc (.cells #[.int .i64 bn,.int .i64 bd] 23)).alloc (.cells #[.int .i64 0,.int .i64 0] 23)) = W1 at *
 have y0 := D0.out.cell 0
 have y1 := D0.out.cell 1
 have y2 := D1.out.cell 0
 have y3 := D1.out.cell 1
 simp only [List.getElem?_toArray,List.getElem?_cons_succ,List.getElem?_cons_zero] at y0 y1 y2 y3
 have u0 := HeldB.cell y0
 have u1 := HeldB.cell y1
 have u2 := HeldB.cell y2
 have u3 := HeldB.cell y3
 clear y0 y1 y2 y3
 refine wp_region_grow 24 (fun jx => if jx = 2 then some (gV (.int .u64 (an.natAbs : Nat))) else if jx = 5 then some (gV (.int .u64 (bd.natAbs : Nat))) else if jx = 6 then some (gV (uW N)) else if jx = 16 then some (gV (.int .u64 (ad.natAbs : Nat))) else if jx = 19 then some (gV (.int .u64 (bn.natAbs : Nat))) else if jx = 20 then some (gV (uW D)) else if jx = 21 then some (gV (.tuple #[.agg #[.int .i64 fx,.int .i64 fy],.int .i64 fz])) else none) (by kernel_rfl) (by kernel_rfl) ?_
 simp only [List.take_succ_cons,List.take_zero,List.drop_succ_cons,List.drop_zero]
 refine wpG_quiet 2 (by kernel_rfl) (by rfl) (by decide) ?_
 simp only [List.take_succ_cons,List.take_zero,List.drop_succ_cons,List.drop_zero]
 repeat (go_big_quiet_step (fail))
 refine wpQuiet_nil ?_
 refine wpG_call rfl rfl (fun w1 _ _ => ⟨95,#[.int .i64 an],by go_simp,HS1.out w1⟩) ?_
 rintro _ rfl
 simp only [Act.put,List.setIfInBounds_toArray,List.set_cons_zero,List.set_cons_succ]
 refine wpG_quiet 2 (by kernel_rfl) (by rfl) (by decide) ?_
 simp only [List.take_succ_cons,List.take_zero,List.drop_succ_cons,List.drop_zero]
 repeat (go_big_quiet_step (fail))
 refine wpQuiet_nil ?_
 refine wpG_call rfl rfl (fun w1 _ _ => ⟨95,#[.int .i64 bd],by go_simp,HS2.out w1⟩) ?_
 rintro _ rfl
 simp only [Act.put,List.setIfInBounds_toArray,List.set_cons_zero,List.set_cons_succ]
 refine wpG_call rfl rfl (fun w1 _ _ => ⟨98,#[.int .u64 (an.natAbs : Nat),.int .u64 (bd.natAbs : Nat)],by go_simp,HP1.out w1⟩) ?_
 rintro _ rfl
 simp only [Act.put,List.setIfInBounds_toArray,List.set_cons_zero,List.set_cons_succ]
 refine wpG_quiet 9 (by kernel_rfl) (by rfl) (by decide) ?_
 simp only [List.take_succ_cons,List.take_zero,List.drop_succ_cons,List.drop_zero]
 repeat (go_big_quiet_step (fail))
 refine wpQuiet_nil ?_
 refine wpG_call rfl rfl (fun w1 _ _ => ⟨95,#[.int .i64 ad],by go_simp,HS3.out w1⟩) ?_
 rintro _ rfl
 simp only [Act.put,List.setIfInBounds_toArray,List.set_cons_zero,List.set_cons_succ]
 refine wpG_quiet 2 (by kernel_rfl) (by rfl) (by decide) ?_
 simp only [List.take_succ_cons,List.take_zero,List.drop_succ_cons,List.drop_zero]
 repeat (go_big_quiet_step (fail))
 refine wpQuiet_nil ?_
 refine wpG_call rfl rfl (fun w1 _ _ => ⟨95,#[.int .i64 bn],by go_simp,HS4.out w1⟩) ?_
 rintro _ rfl
 simp only [Act.put,List.setIfInBounds_toArray,List.set_cons_zero,List.set_cons_succ]
 refine wpG_call rfl rfl (fun w1 _ _ => ⟨98,#[.int .u64 (ad.natAbs : Nat),.int .u64 (bn.natAbs : Nat)],by go_simp,HP2.out w1⟩) ?_
 rintro _ rfl
 simp only [Act.put,List.setIfInBounds_toArray,List.set_cons_zero,List.set_cons_succ]
 refine wpG_call rfl rfl (fun w1 _ _ => ⟨97,#[uW N,.bool (s1 != s2),uW D],by go_simp;cases s1 <;> cases s2 <;> rfl,(HM.out w1).mono fun _ _ ⟨he,hb⟩ => ⟨_,he,hb,rfl,trivial⟩⟩) ?_
 rintro _ rfl
 simp only [Act.put,List.setIfInBounds_toArray,List.set_cons_zero,List.set_cons_succ]
 refine wpG_quiet 2 (by kernel_rfl) (by rfl) (by decide) ?_
 simp only [List.take_succ_cons,List.take_zero,List.drop_succ_cons,List.drop_zero]
 repeat (go_big_quiet_step (fail))
 refine wpQuiet_nil ?_
 refine wpG_nil ?_
 intro w4 hb4 hF
 have D24 := D2.out.below hb4 D2.out.lt
 have HB4 := HB.out.trans (hb4.mono HB.out.size)
 have q0 := D24.cell 0
 have f0 := D24.frozen 0
 have E1 := (D24.set_ 0 (.int .i64 fx))
 have f1 := E1.frozen 1
 have E2 := E1.set_ 1 (.int .i64 fy)
 have p0 := E2.cell 0
 have p1 := E2.cell 1
 have r1 := E1.cell 1
 simp only [List.setIfInBounds_toArray,List.set_cons_zero,List.set_cons_succ] at p0 p1 r1
 simp only [List.getElem?_toArray,List.getElem?_cons_succ,List.getElem?_cons_zero] at q0 p0 p1 r1
 have HBz := Lib.hid ((HB4.setCell (p := ⟨w.heap.size + 1 + 1,0,none⟩) (by show w.heap.size ≤ w.heap.size + 1 + 1;omega) (.int .i64 fx)).setCell (p := ⟨w.heap.size + 1 + 1,1,none⟩) (by show w.heap.size ≤ w.heap.size + 1 + 1;omega) (.int .i64 fy))
 clear D24 HB4 E1 E2 HM hF u0 u1 u2 u3 D0 D1 D2 HB HS1 HS2 HS3 HS4 HP1 HP2
 go_wp2_with fail
 refine bodyPost_ret (v := .tuple #[.agg #[.int .i64 fx,.int .i64 fy],.int .i64 fz]) (by simp [results,Tryz.results52,go_sem,p0,p1]) rfl ?_
 exact ⟨rfl,HBz.out⟩
end Go.Proofs.YtknkhnahflmjiaaGreatDoor

namespace Go.Proofs.YtknkhnahflmjiaaGreatDoor
open Go.RowKit Go.Shelf
theorem good_ofW {n d : Int} (h1 : ¬ d < 1) (h2 : ¬ 1152921504606846976 < d) (h3 : ¬ n < -1152921504606846976) (h4 : ¬ 1152921504606846976 < n) : frGood ⟨n,d⟩ = (((Nat.gcd n.natAbs d.natAbs : Nat) : Int) == 1) := by
 unfold frGood
 simp only []
 rw [decide_eq_true (show 1 ≤ d by omega),decide_eq_true (show d ≤ 1152921504606846976 by omega),decide_eq_true (show -1152921504606846976 ≤ n by omega),decide_eq_true (show n ≤ 1152921504606846976 by omega)]
 rfl
theorem good_noW {n d : Int} (h : d < 1 ∨ 1152921504606846976 < d ∨ n < -1152921504606846976 ∨ 1152921504606846976 < n) : frGood ⟨n,d⟩ = false := by
 unfold frGood
 simp only []
 rcases h with h | h | h | h
 ·rw [decide_eq_false (show ¬ 1 ≤ d by omega)]
  rfl
 ·rw [decide_eq_false (show ¬ d ≤ 1152921504606846976 by omega),Bool.and_false]
  rfl
 ·rw [decide_eq_false (show ¬ -1152921504606846976 ≤ n by omega),Bool.and_false]
  rfl
 ·rw [decide_eq_false (show ¬ n ≤ 1152921504606846976 by omega),Bool.and_false]
  rfl
abbrev uS (x : Nat) : Value := .agg #[.int .u64 0,.int .u64 (x : Int)]
theorem uS_is {x : Nat} (h : x ≤ 1152921504606846976) : uW x = uS x := by
 obtain ⟨h0,h1⟩ := low_w h
 unfold uW uS
 rw [h0,h1]
theorem gcdS (a b : Nat) (w : World) (ha : a ≤ 1152921504606846976) (hb0 : 0 < b) (hb : b ≤ 1152921504606846976) : Calls Tryz.prog 94 #[uS a,uS b] w fun e w' => e = .returned (uS (Nat.gcd a b)) ∧ Below w.heap.size w w' := by
 have h := rfGcdW a b w (Nat.lt_of_le_of_lt ha (by decide)) hb0 (Nat.lt_of_le_of_lt hb (by decide))
 rw [uS_is ha,uS_is hb,uS_is (Nat.le_trans (Nat.gcd_le_right _ hb0) hb)] at h
 exact h
theorem gcd_gS {f : FuncId} {args : Array Value} {u : Value} {w : World} (h : Calls Tryz.prog f args w fun e w' => e = .returned u ∧ Below w.heap.size w w') : Calls Tryz.prog f args w fun e w' => ∃ v,e = .returned v ∧ Below w.heap.size w w' ∧ (gV u).σ v ∧ (gV u).φ v w' :=
 h.mono fun _ _ hp => ⟨_,hp.1,hp.2,rfl,trivial⟩
set_option maxRecDepth 100000 in
set_option maxHeartbeats 4000000 in
theorem rfValidW (x : FrT) (w : World) : Calls Tryz.prog 45 #[x.val] w fun e w' => e = .returned (.bool (frGood x)) ∧ Below w.heap.size w w' := by
 obtain ⟨n,d⟩ := x
 have HB := Lib.hid ((Below.refl _ w).alloc (Nat.le_refl _) (.cells #[.int .i64 n,.int .i64 d] 23))
 have HD := Lib.hid (Blk.new w 23 #[.int .i64 n,.int .i64 d])
 go_enter Tryz.func45,Tryz.ntmps45
 go_upto_region 1 with fail
 generalize w.alloc (.cells #[.int .i64 n,.int .i64 d] 23) = W1 at *
 have y0 := HD.out.cell 0
 have y1 := HD.out.cell 1
 simp only [List.getElem?_toArray,List.getElem?_cons_succ,List.getElem?_cons_zero] at y0 y1
 by_cases c0 : d < 1
 ·have d0 : decide (d < 1) = true := decide_eq_true c0
  have HV : Hid (frGood ⟨n,d⟩ = false) := good_noW (.inl c0)
  go_wp2_with fail
  go_ret
  exact ⟨ret_bool HV.out.symm,HB.out⟩
 have d0 : decide (d < 1) = false := decide_eq_false c0
 by_cases c1 : 1152921504606846976 < d
 ·have d1 : decide (1152921504606846976 < d) = true := decide_eq_true c1
  have HV : Hid (frGood ⟨n,d⟩ = false) := good_noW (.inr (.inl c1))
  go_wp2_with fail
  go_ret
  exact ⟨ret_bool HV.out.symm,HB.out⟩
 have d1 : decide (1152921504606846976 < d) = false := decide_eq_false c1
 by_cases c2 : n < -1152921504606846976
 ·have d2 : decide (n < -1152921504606846976) = true := decide_eq_true c2
  have HV : Hid (frGood ⟨n,d⟩ = false) := good_noW (.inr (.inr (.inl c2)))
  go_wp2_with fail
  go_ret
  exact ⟨ret_bool HV.out.symm,HB.out⟩
 have d2 : decide (n < -1152921504606846976) = false := decide_eq_false c2
 by_cases c3 : 1152921504606846976 < n
 ·have d3 : decide (1152921504606846976 < n) = true := decide_eq_true c3
  have HV : Hid (frGood ⟨n,d⟩ = false) := good_noW (.inr (.inr (.inr c3)))
  go_wp2_with fail
  go_ret
  exact ⟨ret_bool HV.out.symm,HB.out⟩
 have d3 : decide (1152921504606846976 < n) = false := decide_eq_false c3
 have HV := Lib.hid (good_ofW c0 c1 c2 c3)
 have hn1 : -1152921504606846976 ≤ n := by omega
 have hn2 : n ≤ 1152921504606846976 := by omega
 have hd1 : -1152921504606846976 ≤ d := by omega
 have hd2 : d ≤ 1152921504606846976 := by omega
 have HGc := Lib.hid (fun W => gcdS n.natAbs d.natAbs W (by omega) (by omega) (by omega))
 clear c0 c1 c2 c3
 go_upto_region 3 with fail
 have uy0 := HeldB.cell y0
 have uy1 := HeldB.cell y1
 clear y0 y1
 refine wp_region_grow 10 (fun jx => if jx = 2 then some (gV (.int .u64 (n.natAbs : Nat))) else if jx = 6 then some (gV (.int .u64 (d.natAbs : Nat))) else if jx = 8 then some (gV (uS (Nat.gcd n.natAbs d.natAbs))) else none) (by kernel_rfl) (by kernel_rfl) ?_
 simp only [List.take_succ_cons,List.take_zero,List.drop_succ_cons,List.drop_zero]
 refine wpG_quiet 2 (by kernel_rfl) (by rfl) (by decide) ?_
 simp only [List.take_succ_cons,List.take_zero,List.drop_succ_cons,List.drop_zero]
 repeat (go_big_quiet_step (fail))
 refine wpQuiet_nil ?_
 refine wpG_call rfl rfl ?_ ?_
 ·intro w1 hb1 hk
  have hC := usize_g (n := n) w1 hn1 hn2
  exact ⟨95,#[.int .i64 n],by go_simp,hC⟩
 rintro _ rfl
 simp only [Act.put,List.setIfInBounds_toArray,List.set_cons_zero,List.set_cons_succ]
 refine wpG_quiet 3 (by kernel_rfl) (by rfl) (by decide) ?_
 simp only [List.take_succ_cons,List.take_zero,List.drop_succ_cons,List.drop_zero]
 repeat (go_big_quiet_step (fail))
 refine wpQuiet_nil ?_
 refine wpG_call rfl rfl ?_ ?_
 ·intro w1 hb1 hk
  have hC := usize_g (n := d) w1 hd1 hd2
  exact ⟨95,#[.int .i64 d],by go_simp,hC⟩
 rintro _ rfl
 simp only [Act.put,List.setIfInBounds_toArray,List.set_cons_zero,List.set_cons_succ]
 refine wpG_quiet 1 (by kernel_rfl) (by rfl) (by decide) ?_
 simp only [List.take_succ_cons,List.take_zero,List.drop_succ_cons,List.drop_zero]
 repeat (go_big_quiet_step (fail))
 refine wpQuiet_nil ?_
 refine wpG_call rfl rfl ?_ ?_
 ·intro w1 hb1 hk
  have hC := gcd_gS (HGc.out w1)
  exact ⟨94,#[uS n.natAbs,uS d.natAbs],by go_simp,hC⟩
 rintro _ rfl
 simp only [Act.put,List.setIfInBounds_toArray,List.set_cons_zero,List.set_cons_succ]
 refine wpG_quiet 1 (by kernel_rfl) (by rfl) (by decide) ?_
 simp only [List.take_succ_cons,List.take_zero,List.drop_succ_cons,List.drop_zero]
 repeat (go_big_quiet_step (fail))
 refine wpQuiet_nil ?_
 refine wpG_nil ?_
 intro w8 hb8 hF
 have HB8 := Lib.hid (HB.out.trans (hb8.mono HB.out.size))
 clear hF hb8 uy0 uy1 HGc
 generalize Nat.gcd n.natAbs d.natAbs = g at *
 obtain ⟨q,hq⟩ : ∃ q,((g : Int) == 1) = q := ⟨_,rfl⟩
 rw [hq] at HV
 cases q
 all_goals
  go_wp2_with fail
  go_ret
  exact ⟨ret_bool HV.out.symm,HB8.out⟩
end Go.Proofs.YtknkhnahflmjiaaGreatDoor

namespace Go.Proofs.YtknkhnahflmjiaaGreatDoor
open Go.RowKit Go.Shelf
theorem rfOf (m : Int) (w : World) : Calls Tryz.prog 53 #[.int .i64 m] w fun e w' => e = .returned (.agg #[.int .i64 m,.int .i64 1]) ∧ Below w.heap.size w w' := by
 go_enter Tryz.func53,Tryz.ntmps53
 go_wp2_with fail
 refine bodyPost_ret (v := .agg #[.int .i64 m,.int .i64 1]) (by simp [results,Tryz.results53,go_sem]) rfl ?_
 exact ⟨rfl,(Below.refl _ _).alloc (Nat.le_refl _) _⟩
set_option maxRecDepth 100000 in
set_option maxHeartbeats 4000000 in
theorem rfFactor0 (a : FrT) (m : Int) (w : World) (ha : frGood a = true) (h0 : 0 < a.num) (hm : 1 ≤ m ∧ m ≤ 67108864) :
  Calls Tryz.prog 13 #[a.val,.int .i64 m] w fun e w' => e = .returned (fracV (qOf ⟨m,1⟩ / qOf a)) ∧ Below w.heap.size w w' := by
 have hva := fun W => rfValidW a W
 rw [ha] at hva
 have hM := fun W => rfOverW ⟨m,1⟩ a W (good_whole (by omega) (by omega)) ha (by omega)
 obtain ⟨fx,fy,fz,hf⟩ := fracV_form (qOf ⟨m,1⟩ / qOf a)
 rw [hf] at hM ⊢
 have HM := Lib.hid hM
 have HO := Lib.hid fun W => rfOf m W
 have d1 : decide (m < 1) = false := decide_eq_false (by omega)
 have d2 : decide (67108864 < m) = false := decide_eq_false (by omega)
 have d3 : decide (a.num < 0) = false := decide_eq_false (by omega)
 have d4 : (a.num == 0) = false := beq_eq_false_iff_ne.2 (by omega)
 clear ha h0 hm hf hM
 obtain ⟨an,ad⟩ := a
 simp only at *
 have D0 := (Blk.new w 23 #[.int .i64 an,.int .i64 ad]).alloc (.cells #[.int .i64 0,.int .i64 0] 23)
 have D1 := Blk.new (w.alloc (.cells #[.int .i64 an,.int .i64 ad] 23)) 23 #[.int .i64 0,.int .i64 0]
 have hB := ((Below.refl _ w).alloc (Nat.le_refl _) (.cells #[.int .i64 an,.int .i64 ad] 23)).alloc (by simp) (.cells #[.int .i64 0,.int .i64 0] 23)
 rw [World.size_alloc] at D1
 go_enter Tryz.func13,Tryz.ntmps13
 go_wp2_with fail
 generalize (w.alloc (.cells #[.int .i64 an,.int .i64 ad] 23)).alloc (.cells #[.int .i64 0,.int .i64 0] 23) = W1 at *
 refine (hva W1).mono ?_
 rintro e w2 ⟨rfl,hb2⟩
 have D0 := Lib.hid (D0.below hb2 D0.lt)
 have D1 := Lib.hid (D1.below hb2 D1.lt)
 have HB := Lib.hid (hB.trans (hb2.mono hB.size))
 clear hb2 hB hva
 have y0 := D0.out.cell 0
 have y1 := D0.out.cell 1
 simp only [List.getElem?_toArray,List.getElem?_cons_succ,List.getElem?_cons_zero] at y0 y1
 go_wp2_with (exact Go.WalkKit.wp_stop)
 have u0 := HeldB.cell y0
 have u1 := HeldB.cell y1
 clear y0 y1
 refine wp_region_grow 6 (fun jx => if jx = 1 then some (gV (.agg #[.int .i64 m,.int .i64 1])) else if jx = 3 then some (gV (.tuple #[.agg #[.int .i64 fx,.int .i64 fy],.int .i64 fz])) else none) (by kernel_rfl) (by kernel_rfl) ?_
 simp only [List.take_succ_cons,List.take_zero,List.drop_succ_cons,List.drop_zero]
 refine wpG_quiet 1 (by kernel_rfl) (by rfl) (by decide) ?_
 simp only [List.take_succ_cons,List.take_zero,List.drop_succ_cons,List.drop_zero]
 repeat (go_big_quiet_step (fail))
 refine wpQuiet_nil ?_
 refine wpG_call rfl rfl (fun w1 _ _ => ⟨53,#[.int .i64 m],by go_simp,(HO.out w1).mono fun _ _ ⟨he,hb⟩ => ⟨_,he,hb,rfl,trivial⟩⟩) ?_
 rintro _ rfl
 simp only [Act.put,List.setIfInBounds_toArray,List.set_cons_zero,List.set_cons_succ]
 refine wpG_quiet 1 (by kernel_rfl) (by rfl) (by decide) ?_
 simp only [List.take_succ_cons,List.take_zero,List.drop_succ_cons,List.drop_zero]
 repeat (go_big_quiet_step (fail))
 refine wpQuiet_nil ?_
 refine wpG_call rfl rfl (fun w1 _ _ => ⟨52,#[.agg #[.int .i64 m,.int .i64 1],.agg #[.int .i64 an,.int .i64 ad]],by go_simp,(HM.out w1).mono fun _ _ ⟨he,hb⟩ => ⟨_,he,hb,rfl,trivial⟩⟩) ?_
 rintro _ rfl
 simp only [Act.put,List.setIfInBounds_toArray,List.set_cons_zero,List.set_cons_succ]
 refine wpG_quiet 2 (by kernel_rfl) (by rfl) (by decide) ?_
 simp only [List.take_succ_cons,List.take_zero,List.drop_succ_cons,List.drop_zero]
 repeat (go_big_quiet_step (fail))
 refine wpQuiet_nil ?_
 refine wpG_nil ?_
 intro w4 hb4 hF
 have D24 := D1.out.below hb4 D1.out.lt
 have HB4 := HB.out.trans (hb4.mono HB.out.size)
 have q0 := D24.cell 0
 have f0 := D24.frozen 0
 have E1 := (D24.set_ 0 (.int .i64 fx))
 have f1 := E1.frozen 1
 have E2 := E1.set_ 1 (.int .i64 fy)
 have p0 := E2.cell 0
 have p1 := E2.cell 1
 have r1 := E1.cell 1
 simp only [List.setIfInBounds_toArray,List.set_cons_zero,List.set_cons_succ] at p0 p1 r1
 simp only [List.getElem?_toArray,List.getElem?_cons_succ,List.getElem?_cons_zero] at q0 p0 p1 r1
 have HBz := Lib.hid ((HB4.setCell (p := ⟨w.heap.size + 1,0,none⟩) (by show w.heap.size ≤ w.heap.size + 1;omega) (.int .i64 fx)).setCell (p := ⟨w.heap.size + 1,1,none⟩) (by show w.heap.size ≤ w.heap.size + 1;omega) (.int .i64 fy))
 clear D24 HB4 E1 E2 HM HO hF u0 u1
 go_wp2_with fail
 refine bodyPost_ret (v := .tuple #[.agg #[.int .i64 fx,.int .i64 fy],.int .i64 fz]) (by simp [results,Tryz.results13,go_sem,p0,p1]) rfl ?_
 exact ⟨rfl,HBz.out⟩
set_option maxRecDepth 100000 in
set_option maxHeartbeats 2000000 in
theorem rfFactorTop (a : FrT) (m : Int) (w : World) : Calls Tryz.prog 13 #[a.val,.int .i64 m] w fun e w' => e = .returned (factorV a m) ∧ Below w.heap.size w w' := by
 by_cases hz : factorE a m = 0
 ·obtain ⟨h1,h2,h3,h4⟩ := factorE_zero hz
  have h := rfFactor0 a m w h1 h2 ⟨h3,h4⟩
  unfold factorV
  rw [if_pos hz]
  exact h
 have hva := fun W => rfValidW a W
 have D0 := (Blk.new w 23 #[.int .i64 a.num,.int .i64 a.den]).alloc (.cells #[.int .i64 0,.int .i64 0] 23)
 have D1 := Blk.new (w.alloc (.cells #[.int .i64 a.num,.int .i64 a.den] 23)) 23 #[.int .i64 0,.int .i64 0]
 have HB := Lib.hid (((Below.refl _ w).alloc (Nat.le_refl _) (.cells #[.int .i64 a.num,.int .i64 a.den] 23)).alloc (by simp) (.cells #[.int .i64 0,.int .i64 0] 23))
 rw [World.size_alloc] at D1
 cases h0 : frGood a with
 | false =>
  have HV : Hid (factorV a m = .tuple #[.agg #[.int .i64 0,.int .i64 0],.int .i64 1]) := by
   have e : factorE a m = 1 := by unfold factorE;rw [if_neg (by rw [h0];decide)]
   unfold Hid factorV
   rw [if_neg hz,e]
  rw [h0] at hva
  generalize factorV a m = fv at *
  clear hz h0
  obtain ⟨an,ad⟩ := a
  simp only at *
  go_enter Tryz.func13,Tryz.ntmps13
  go_wp2_with (first | (go_at_call 45;refine (hva _).mono ?_;rintro e w2 ⟨rfl,hb2⟩;have D0 := D0.below hb2 D0.lt;have D1 := D1.below hb2 D1.lt;have HB := Lib.hid (HB.out.trans (hb2.mono HB.out.size));have y0 := D0.cell 0;have r0 := D1.cell 0;have r1 := D1.cell 1;have f0 := D1.frozen 0;have E1 := D1.set_ 0 (.int .i64 0);have r1' := E1.cell 1;have f1 := E1.frozen 1;have E2 := E1.set_ 1 (.int .i64 0);have p0 := E2.cell 0;have p1 := E2.cell 1;have HBz := Lib.hid ((HB.out.setCell (p := ⟨w.heap.size + 1,0,none⟩) (Nat.le_succ _) (.int .i64 0)).setCell (p := ⟨w.heap.size + 1,1,none⟩) (Nat.le_succ _) (.int .i64 0));simp only [List.setIfInBounds_toArray,List.set_cons_zero,List.set_cons_succ,List.getElem?_toArray,List.getElem?_cons_succ,List.getElem?_cons_zero] at y0 r0 r1 r1' p0 p1))
  refine bodyPost_ret (v := .tuple #[.agg #[.int .i64 0,.int .i64 0],.int .i64 1]) (by simp [results,Tryz.results13,go_sem,p0,p1]) rfl ?_
  exact ⟨by rw [HV.out],HBz.out⟩
 | true =>
  rw [h0] at hva
  by_cases c : 1 ≤ m ∧ m ≤ 67108864 ∧ 0 ≤ a.num
  ·have hn : a.num = 0 := by
    unfold factorE at hz
    rw [if_pos h0,if_pos c] at hz
    split at hz
    ·assumption
    ·exact absurd rfl hz
   have HV : Hid (factorV a m = .tuple #[.agg #[.int .i64 0,.int .i64 0],.int .i64 16]) := by
    have e : factorE a m = 16 := by unfold factorE;rw [if_pos h0,if_pos c,if_pos hn]
    unfold Hid factorV
    rw [if_neg hz,e]
   have d1 : decide (m < 1) = false := decide_eq_false (by omega)
   have d2 : decide (67108864 < m) = false := decide_eq_false (by omega)
   have d3 : decide (a.num < 0) = false := decide_eq_false (by omega)
   have d4 : (a.num == 0) = true := beq_iff_eq.2 hn
   generalize factorV a m = fv at *
   clear hz h0 c
   obtain ⟨an,ad⟩ := a
   simp only at *
   subst hn
   go_enter Tryz.func13,Tryz.ntmps13
   go_wp2_with (first | (go_at_call 45;refine (hva _).mono ?_;rintro e w2 ⟨rfl,hb2⟩;have D0 := D0.below hb2 D0.lt;have D1 := D1.below hb2 D1.lt;have HB := Lib.hid (HB.out.trans (hb2.mono HB.out.size));have y0 := D0.cell 0;have r0 := D1.cell 0;have r1 := D1.cell 1;have f0 := D1.frozen 0;have E1 := D1.set_ 0 (.int .i64 0);have r1' := E1.cell 1;have f1 := E1.frozen 1;have E2 := E1.set_ 1 (.int .i64 0);have p0 := E2.cell 0;have p1 := E2.cell 1;have HBz := Lib.hid ((HB.out.setCell (p := ⟨w.heap.size + 1,0,none⟩) (Nat.le_succ _) (.int .i64 0)).setCell (p := ⟨w.heap.size + 1,1,none⟩) (Nat.le_succ _) (.int .i64 0));simp only [List.setIfInBounds_toArray,List.set_cons_zero,List.set_cons_succ,List.getElem?_toArray,List.getElem?_cons_succ,List.getElem?_cons_zero] at y0 r0 r1 r1' p0 p1))
   refine bodyPost_ret (v := .tuple #[.agg #[.int .i64 0,.int .i64 0],.int .i64 16]) (by simp [results,Tryz.results13,go_sem,p0,p1]) rfl ?_
   exact ⟨by rw [HV.out],HBz.out⟩
  ·have HV : Hid (factorV a m = .tuple #[.agg #[.int .i64 0,.int .i64 0],.int .i64 2]) := by
    have e : factorE a m = 2 := by unfold factorE;rw [if_pos h0,if_neg c]
    unfold Hid factorV
    rw [if_neg hz,e]
   generalize factorV a m = fv at *
   clear hz h0
   obtain ⟨an,ad⟩ := a
   simp only at *
   by_cases c1 : m < 1
   ·have d1 : decide (m < 1) = true := decide_eq_true c1
    clear c
    go_enter Tryz.func13,Tryz.ntmps13
    go_wp2_with (first | (go_at_call 45;refine (hva _).mono ?_;rintro e w2 ⟨rfl,hb2⟩;have D0 := D0.below hb2 D0.lt;have D1 := D1.below hb2 D1.lt;have HB := Lib.hid (HB.out.trans (hb2.mono HB.out.size));have y0 := D0.cell 0;have r0 := D1.cell 0;have r1 := D1.cell 1;have f0 := D1.frozen 0;have E1 := D1.set_ 0 (.int .i64 0);have r1' := E1.cell 1;have f1 := E1.frozen 1;have E2 := E1.set_ 1 (.int .i64 0);have p0 := E2.cell 0;have p1 := E2.cell 1;have HBz := Lib.hid ((HB.out.setCell (p := ⟨w.heap.size + 1,0,none⟩) (Nat.le_succ _) (.int .i64 0)).setCell (p := ⟨w.heap.size + 1,1,none⟩) (Nat.le_succ _) (.int .i64 0));simp only [List.setIfInBounds_toArray,List.set_cons_zero,List.set_cons_succ,List.getElem?_toArray,List.getElem?_cons_succ,List.getElem?_cons_zero] at y0 r0 r1 r1' p0 p1))
    refine bodyPost_ret (v := .tuple #[.agg #[.int .i64 0,.int .i64 0],.int .i64 2]) (by simp [results,Tryz.results13,go_sem,p0,p1]) rfl ?_
    exact ⟨by rw [HV.out],HBz.out⟩
   by_cases c2 : 67108864 < m
   ·have d1 : decide (m < 1) = false := decide_eq_false c1
    have d2 : decide (67108864 < m) = true := decide_eq_true c2
    clear c
    go_enter Tryz.func13,Tryz.ntmps13
    go_wp2_with (first | (go_at_call 45;refine (hva _).mono ?_;rintro e w2 ⟨rfl,hb2⟩;have D0 := D0.below hb2 D0.lt;have D1 := D1.below hb2 D1.lt;have HB := Lib.hid (HB.out.trans (hb2.mono HB.out.size));have y0 := D0.cell 0;have r0 := D1.cell 0;have r1 := D1.cell 1;have f0 := D1.frozen 0;have E1 := D1.set_ 0 (.int .i64 0);have r1' := E1.cell 1;have f1 := E1.frozen 1;have E2 := E1.set_ 1 (.int .i64 0);have p0 := E2.cell 0;have p1 := E2.cell 1;have HBz := Lib.hid ((HB.out.setCell (p := ⟨w.heap.size + 1,0,none⟩) (Nat.le_succ _) (.int .i64 0)).setCell (p := ⟨w.heap.size + 1,1,none⟩) (Nat.le_succ _) (.int .i64 0));simp only [List.setIfInBounds_toArray,List.set_cons_zero,List.set_cons_succ,List.getElem?_toArray,List.getElem?_cons_succ,List.getElem?_cons_zero] at y0 r0 r1 r1' p0 p1))
    refine bodyPost_ret (v := .tuple #[.agg #[.int .i64 0,.int .i64 0],.int .i64 2]) (by simp [results,Tryz.results13,go_sem,p0,p1]) rfl ?_
    exact ⟨by rw [HV.out],HBz.out⟩
   have d1 : decide (m < 1) = false := decide_eq_false c1
   have d2 : decide (67108864 < m) = false := decide_eq_false c2
   have d3 : decide (an < 0) = true := decide_eq_true (by omega)
   clear c c1 c2
   go_enter Tryz.func13,Tryz.ntmps13
   go_wp2_with (first | (go_at_call 45;refine (hva _).mono ?_;rintro e w2 ⟨rfl,hb2⟩;have D0 := D0.below hb2 D0.lt;have D1 := D1.below hb2 D1.lt;have HB := Lib.hid (HB.out.trans (hb2.mono HB.out.size));have y0 := D0.cell 0;have r0 := D1.cell 0;have r1 := D1.cell 1;have f0 := D1.frozen 0;have E1 := D1.set_ 0 (.int .i64 0);have r1' := E1.cell 1;have f1 := E1.frozen 1;have E2 := E1.set_ 1 (.int .i64 0);have p0 := E2.cell 0;have p1 := E2.cell 1;have HBz := Lib.hid ((HB.out.setCell (p := ⟨w.heap.size + 1,0,none⟩) (Nat.le_succ _) (.int .i64 0)).setCell (p := ⟨w.heap.size + 1,1,none⟩) (Nat.le_succ _) (.int .i64 0));simp only [List.setIfInBounds_toArray,List.set_cons_zero,List.set_cons_succ,List.getElem?_toArray,List.getElem?_cons_succ,List.getElem?_cons_zero] at y0 r0 r1 r1' p0 p1))
   refine bodyPost_ret (v := .tuple #[.agg #[.int .i64 0,.int .i64 0],.int .i64 2]) (by simp [results,Tryz.results13,go_sem,p0,p1]) rfl ?_
   exact ⟨by rw [HV.out],HBz.out⟩
end Go.Proofs.YtknkhnahflmjiaaGreatDoor

namespace Go.Proofs.YtknkhnahflmjiaaGreatDoor
open Go.RowKit Go.Shelf
set_option maxRecDepth 100000 in
set_option maxHeartbeats 1000000 in
theorem lawFactors (a : FrT) (m : Int) (w : World) : Calls Tryz.prog 3 #[a.val,.int .i64 m] w fun e w' => e = .returned (.bool true) ∧ Below w.heap.size w w' := by
 have HAw := Lib.hid fun W => lawAwake23 W
 obtain ⟨x,y,z,hf,-,-⟩ := factor_form a m
 have hfac := fun W => lmFactorTop a m W
 have hfr := fun W => rfFactorTop a m W
 rw [hf] at hfac hfr
 have HFac := Lib.hid hfac
 have HFr := Lib.hid hfr
 clear hf hfac hfr
 obtain ⟨an,ad⟩ := a
 try simp only at *
 have HA := Lib.hid (Blk.new w 23 #[.int .i64 an,.int .i64 ad])
 have HB := Lib.hid ((Below.refl _ w).alloc (Nat.le_refl _) (.cells #[.int .i64 an,.int .i64 ad] 23))
 go_enter Tryz.func3,Tryz.ntmps3
 go_upto_region 1 with fail
 generalize w.alloc (.cells #[.int .i64 an,.int .i64 ad] 23) = W0 at *
 generalize w.heap.size = n0 at HA ⊢
 go_upto_region 3 with (first | (go_at_call 11;refine (HAw.out _).mono ?_;rintro e w1 ⟨rfl,hb_w1⟩))
 have HA := Lib.hid (HA.out.below hb_w1 HA.out.lt)
 have HB := Lib.hid (HB.out.trans (hb_w1.mono HB.out.size))
 clear hb_w1 HAw
 have u0 := HA.out.cell 0
 have u1 := HA.out.cell 1
 simp only [List.getElem?_toArray,List.getElem?_cons_succ,List.getElem?_cons_zero] at u0 u1
 go_upto_region 4 with (first | (go_at_call 12;refine (HFac.out _).mono ?_;rintro e w2 ⟨rfl,hb_w2⟩))
 have hb9 := hb_w2.alloc hb_w2.size (.cells #[.int .i64 x,.int .i64 y] 23)
 clear u0 u1
 have HA := Lib.hid (HA.out.below hb9 HA.out.lt)
 have HB := Lib.hid (HB.out.trans (hb9.mono HB.out.size))
 have HX := Lib.hid (Blk.new w2 23 #[.int .i64 x,.int .i64 y])
 clear hb9 hb_w2
 generalize w2.alloc (.cells #[.int .i64 x,.int .i64 y] 23) = W2 at *
 generalize w2.heap.size = n1 at HX ⊢
 have u0 := HA.out.cell 0
 have u1 := HA.out.cell 1
 simp only [List.getElem?_toArray,List.getElem?_cons_succ,List.getElem?_cons_zero] at u0 u1
 go_upto_region 5 with (first | (go_at_call 13;refine (HFr.out _).mono ?_;rintro e w3 ⟨rfl,hb_w3⟩))
 have hb9 := hb_w3.alloc hb_w3.size (.cells #[.int .i64 x,.int .i64 y] 23)
 clear u0 u1
 have HX := Lib.hid (HX.out.below hb9 HX.out.lt)
 have HB := Lib.hid (HB.out.trans (hb9.mono HB.out.size))
 have HY := Lib.hid (Blk.new w3 23 #[.int .i64 x,.int .i64 y])
 clear hb9 hb_w3
 generalize w3.alloc (.cells #[.int .i64 x,.int .i64 y] 23) = W3 at *
 generalize w3.heap.size = n2 at HY ⊢
 have u0 := HX.out.cell 0
 have u1 := HX.out.cell 1
 simp only [List.getElem?_toArray,List.getElem?_cons_succ,List.getElem?_cons_zero] at u0 u1
 have v0 := HY.out.cell 0
 have v1 := HY.out.cell 1
 simp only [List.getElem?_toArray,List.getElem?_cons_succ,List.getElem?_cons_zero] at v0 v1
 go_wp2_with fail
 go_ret
 exact ⟨rfl,HB.out⟩
end Go.Proofs.YtknkhnahflmjiaaGreatDoor
