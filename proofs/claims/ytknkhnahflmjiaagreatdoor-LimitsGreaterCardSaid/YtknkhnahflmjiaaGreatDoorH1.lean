/- Parts of the proof, laid into one text: Itoa, Cmp, CmpW, RatQ, RatM, WeakP, WeakQ, AddP. -/
import Derived.BigQuiet
import Derived.Deep.AppendLies
import Derived.Deep.Draws
import Derived.Deep.LoopGhost
import Derived.Deep.QuietTactic
import Derived.IntWalk
import Derived.Laws.Bits64b
import Derived.Lib.Hide
import Derived.LoopIn
import Derived.LoopNIn
import Derived.Maps.AppendAt
import Derived.Outline
import Derived.OwnWalkIn
import Derived.RangeFuncBox
import Derived.RangeFuncLeaves
import Derived.Shelf.Abstract
import Derived.Shelf.Bits.Mul64
import Derived.Shelf.Strconv.Itoa3
import Derived.StillTail
import Derived.StillTailTactics
import Derived.TacticsInMore
import Derived.Test.YtknkhnahflmjiaaGreatDoorB1
import Derived.Test.YtknkhnahflmjiaaGreatDoorE1
import Derived.Test.YtknkhnahflmjiaaGreatDoorE2
import Derived.Test.YtknkhnahflmjiaaGreatDoorE3
import Derived.Test.YtknkhnahflmjiaaGreatDoorE4
import Derived.Test.YtknkhnahflmjiaaGreatDoorE6
import Derived.Test.YtknkhnahflmjiaaGreatDoorE7
import Derived.Test.YtknkhnahflmjiaaGreatDoorProg
import Derived.WalkKit
import Derived.WalkLawsBesides
import Derived.WalkSpells

namespace Go.Proofs.YtknkhnahflmjiaaGreatDoor
open Go.RowKit Go.Shelf
def mul64Ren : Ren := ⟨fun | 264 => 99 | n => n,fun | 46 => 168 | 53 => 85 | n => n,fun n => n⟩
theorem mul64Lays : Lays.n264 Tryz.prog mul64Ren := {
 mixed := by kernel_rfl
 f264 := Tryz.func99.trans (congrArg some (by kernel_rfl))
 t46 := Tryz.underlying168
 a46 := Tryz.isAgg168
 z46 := Tryz.sizeOf168
 v46 := Tryz.zeroValue168
 t53 := Tryz.underlying85
 a53 := Tryz.isAgg85
 z53 := Tryz.sizeOf85
 v53 := Tryz.zeroValue85 }
theorem bitsMul64 (x y : Nat) (hx : x < 18446744073709551616) (hy : y < 18446744073709551616) (w : World) :
  Calls Tryz.prog 99 #[.int .u64 x,.int .u64 y] w fun e w' => e = .returned (.tuple #[.int .u64 ((x * y / 18446744073709551616 : Nat) : Int),.int .u64 ((x * y % 18446744073709551616 : Nat) : Int)]) ∧ w' = w :=
 Any.bits_Mul64 mul64Lays x y hx hy w
def itoaRen : Ren := ⟨fun | 129 => 189 | 171 => 21 | 243 => 67 | 246 => 107 | 283 => 148 | 284 => 149 | 285 => 150 | 286 => 151 | 317 => 199 | 318 => 200 | 319 => 201 | 320 => 202 | 337 => 245 | 338 => 246 | n => n,fun | 0 => 0 | 2 => 2 | 3 => 3 | 4 => 4 | 5 => 5 | 9 => 9 | 20 => 20 | 37 => 181 | 46 => 168 | 51 => 232 | 53 => 85 | 171 => 179 | 173 => 182 | 212 => 231 | 213 => 233 | 232 => 301 | 233 => 302 | n => n,fun | 17 => 2 | 18 => 3 | 19 => 4 | n => n⟩
theorem itoaLays : Lays.n171 Tryz.prog itoaRen := {
 mixed := by kernel_rfl
 f129 := Tryz.func189.trans (congrArg some (by kernel_rfl))
 f171 := Tryz.func21.trans (congrArg some (by kernel_rfl))
 f243 := Tryz.func67.trans (congrArg some (by kernel_rfl))
 f246 := Tryz.func107.trans (congrArg some (by kernel_rfl))
 f283 := Tryz.func148.trans (congrArg some (by kernel_rfl))
 f284 := Tryz.func149.trans (congrArg some (by kernel_rfl))
 f285 := Tryz.func150.trans (congrArg some (by kernel_rfl))
 f286 := Tryz.func151.trans (congrArg some (by kernel_rfl))
 f317 := Tryz.func199.trans (congrArg some (by kernel_rfl))
 f318 := Tryz.func200.trans (congrArg some (by kernel_rfl))
 f319 := Tryz.func201.trans (congrArg some (by kernel_rfl))
 f320 := Tryz.func202.trans (congrArg some (by kernel_rfl))
 f337 := Tryz.func245.trans (congrArg some (by kernel_rfl))
 f338 := Tryz.func246.trans (congrArg some (by kernel_rfl))
 t0 := Tryz.underlying0
 a0 := Tryz.isAgg0
 z0 := Tryz.sizeOf0
 v0 := Tryz.zeroValue0
 t2 := Tryz.underlying2
 a2 := Tryz.isAgg2
 z2 := Tryz.sizeOf2
 v2 := Tryz.zeroValue2
 t3 := Tryz.underlying3
 a3 := Tryz.isAgg3
 z3 := Tryz.sizeOf3
 v3 := Tryz.zeroValue3
 t4 := Tryz.underlying4
 a4 := Tryz.isAgg4
 z4 := Tryz.sizeOf4
 v4 := Tryz.zeroValue4
 t5 := Tryz.underlying5
 a5 := Tryz.isAgg5
 z5 := Tryz.sizeOf5
 v5 := Tryz.zeroValue5
 t9 := Tryz.underlying9
 a9 := Tryz.isAgg9
 z9 := Tryz.sizeOf9
 v9 := Tryz.zeroValue9
 t20 := Tryz.underlying20
 a20 := Tryz.isAgg20
 z20 := Tryz.sizeOf20
 v20 := Tryz.zeroValue20
 t37 := Tryz.underlying181
 a37 := Tryz.isAgg181
 z37 := Tryz.sizeOf181
 v37 := Tryz.zeroValue181
 t46 := Tryz.underlying168
 a46 := Tryz.isAgg168
 z46 := Tryz.sizeOf168
 v46 := Tryz.zeroValue168
 t51 := Tryz.underlying232
 a51 := Tryz.isAgg232
 z51 := Tryz.sizeOf232
 v51 := Tryz.zeroValue232
 t53 := Tryz.underlying85
 a53 := Tryz.isAgg85
 z53 := Tryz.sizeOf85
 v53 := Tryz.zeroValue85
 t171 := Tryz.underlying179
 a171 := Tryz.isAgg179
 z171 := Tryz.sizeOf179
 v171 := Tryz.zeroValue179
 t173 := Tryz.underlying182
 a173 := Tryz.isAgg182
 z173 := Tryz.sizeOf182
 v173 := Tryz.zeroValue182
 t212 := Tryz.underlying231
 a212 := Tryz.isAgg231
 z212 := Tryz.sizeOf231
 v212 := Tryz.zeroValue231
 t213 := Tryz.underlying233
 a213 := Tryz.isAgg233
 z213 := Tryz.sizeOf233
 t232 := Tryz.underlying301
 a232 := Tryz.isAgg301
 z232 := Tryz.sizeOf301
 v232 := Tryz.zeroValue301
 t233 := Tryz.underlying302
 a233 := Tryz.isAgg302
 z233 := Tryz.sizeOf302
 v233 := Tryz.zeroValue302
 g17 := by kernel_rfl
 g18 := by kernel_rfl
 g19 := by kernel_rfl }
def itoaB (i : Nat) : ByteArray := ⟨(Lib.decDigits i).toArray⟩
theorem strItoa (i : Nat) (hi : i < 100) (w : World) : Calls Tryz.prog 21 #[.int .i64 i] w fun e w' => e = .returned (.string (itoaB i)) ∧ w' = w :=
 Any.strconv_Itoa_small itoaLays i hi w
end Go.Proofs.YtknkhnahflmjiaaGreatDoor

namespace Go.Proofs.YtknkhnahflmjiaaGreatDoor
open Go.RowKit Go.Shelf
abbrev wideV (n : Nat) : Value := .agg #[.int .u64 ((n / 18446744073709551616 : Nat) : Int),.int .u64 ((n % 18446744073709551616 : Nat) : Int)]
set_option maxHeartbeats 1000000 in
theorem raProduct (x y : Nat) (hx : x < 18446744073709551616) (hy : y < 18446744073709551616) (w : World) :
  Calls Tryz.prog 56 #[.int .u64 x,.int .u64 y] w fun e w' => e = .returned (wideV (x * y)) ∧ Below w.heap.size w w' := by
 have hM := fun W => bitsMul64 x y hx hy W
 have HD := Lib.hid (Blk.new w 89 #[.int .u64 0,.int .u64 0])
 have HB := Lib.hid ((Below.refl _ w).alloc (Nat.le_refl _) (.cells #[.int .u64 0,.int .u64 0] 89))
 clear hx hy
 unfold wideV
 generalize ((x * y / 18446744073709551616 : Nat) : Int) = h at *
 generalize ((x * y % 18446744073709551616 : Nat) : Int) = l at *
 have z0 := HD.out.cell 0
 have z1 := HD.out.cell 1
 have f0 := HD.out.frozen 0
 have f1 := HD.out.frozen 1
 simp only [List.getElem?_toArray,List.getElem?_cons_succ,List.getElem?_cons_zero] at z0 z1
 go_enter Tryz.func56,Tryz.ntmps56
 go_wp2_with (go_at_call 99;refine (hM _).mono ?_;rintro e w' ⟨rfl,rfl⟩)
 refine bodyPost_ret (v := .agg #[.int .u64 h,.int .u64 l]) (by simp [results,Tryz.results56,go_sem]) rfl ?_
 exact ⟨rfl,(Below.refl _ w).alloc (Nat.le_refl _) _⟩
theorem div_lt_of {m n K : Nat} (hK : 0 < K) : m < n ↔ m / K < n / K ∨ (m / K = n / K ∧ m % K < n % K) := by
 have hm := Nat.div_add_mod m K
 have hn := Nat.div_add_mod n K
 have h1 := Nat.mod_lt m hK
 have h2 := Nat.mod_lt n hK
 constructor
 ·intro h
  rcases Nat.lt_trichotomy (m / K) (n / K) with h3 | h3 | h3
  ·exact .inl h3
  ·refine .inr ⟨h3,?_⟩
   rw [h3] at hm
   omega
  ·exfalso
   have : K * (n / K + 1) ≤ K * (m / K) := Nat.mul_le_mul_left K h3
   rw [Nat.mul_add] at this
   omega
 ·rintro (h3 | ⟨h3,h4⟩)
  ·have : K * (m / K + 1) ≤ K * (n / K) := Nat.mul_le_mul_left K h3
   rw [Nat.mul_add] at this
   omega
  ·rw [h3] at hm
   omega
set_option maxHeartbeats 1000000 in
theorem raLess (m n : Nat) (w : World) : Calls Tryz.prog 59 #[wideV m,wideV n] w fun e w' => e = .returned (.bool (decide (m < n))) ∧ Below w.heap.size w w' := by
 have HV : Hid ((m < n) ↔ _) := div_lt_of (m := m) (n := n) (K := 18446744073709551616) (by decide)
 have HD := Lib.hid (Blk.new w 89 #[.int .u64 ((m / 18446744073709551616 : Nat) : Int),.int .u64 ((m % 18446744073709551616 : Nat) : Int)])
 have HD2 := Lib.hid ((Blk.new w 89 #[.int .u64 ((m / 18446744073709551616 : Nat) : Int),.int .u64 ((m % 18446744073709551616 : Nat) : Int)]).alloc (.cells #[.int .u64 ((n / 18446744073709551616 : Nat) : Int),.int .u64 ((n % 18446744073709551616 : Nat) : Int)] 89))
 have HB := Lib.hid (((Below.refl _ w).alloc (Nat.le_refl _) (.cells #[.int .u64 ((m / 18446744073709551616 : Nat) : Int),.int .u64 ((m % 18446744073709551616 : Nat) : Int)] 89)).alloc (by simp) (.cells #[.int .u64 ((n / 18446744073709551616 : Nat) : Int),.int .u64 ((n % 18446744073709551616 : Nat) : Int)] 89))
 unfold wideV
 generalize m / 18446744073709551616 = mh at *
 generalize m % 18446744073709551616 = ml at *
 generalize n / 18446744073709551616 = nh at *
 generalize n % 18446744073709551616 = nl at *
 by_cases h1 : mh < nh
 ·have d1 : decide (mh < nh) = true := decide_eq_true h1
  have HR : Hid (decide (m < n) = true) := decide_eq_true (HV.out.2 (.inl h1))
  clear h1
  go_enter Tryz.func59,Tryz.ntmps59
  go_wp2
  go_ret
  exact ⟨ret_bool HR.out.symm,HB.out⟩
 ·have d1 : decide (mh < nh) = false := decide_eq_false h1
  by_cases h2 : mh = nh
  ·subst h2
   have HR : Hid (decide (m < n) = decide (ml < nl)) := by
    unfold Hid
    rw [Bool.eq_iff_iff,decide_eq_true_iff,decide_eq_true_iff,HV.out]
    omega
   clear h1
   go_enter Tryz.func59,Tryz.ntmps59
   go_wp2
   go_ret
   exact ⟨ret_bool HR.out.symm,HB.out⟩
  ·have d2 : ((mh : Int) == (nh : Int)) = false := beq_eq_false_iff_ne.2 (by omega)
   have HR : Hid (decide (m < n) = false) := decide_eq_false (by rw [HV.out];omega)
   clear h1 h2
   go_enter Tryz.func59,Tryz.ntmps59
   go_wp2
   go_ret
   exact ⟨ret_bool HR.out.symm,HB.out⟩
end Go.Proofs.YtknkhnahflmjiaaGreatDoor

namespace Go.Proofs.YtknkhnahflmjiaaGreatDoor
open Go.RowKit Go.Shelf
def cmpF (a b : FrT) : Int := if a.num * b.den < b.num * a.den then -1 else if b.num * a.den < a.num * b.den then 1 else 0
theorem good_bd {x : FrT} (h : frGood x = true) : 1 ≤ x.den ∧ x.den ≤ 1152921504606846976 ∧ -1152921504606846976 ≤ x.num ∧ x.num ≤ 1152921504606846976 := by
 unfold frGood at h
 simp only [Bool.and_eq_true,decide_eq_true_eq] at h
 exact ⟨h.1.1.1.1,h.1.1.1.2,h.1.1.2,h.1.2⟩
def AtWide (B : Nat) (v : Value) (w : World) : Prop := ∃ g,v = .pointer (some ⟨g,0,none⟩) ∧ B ≤ g ∧ Blk w g 89 #[.int .u64 0,.int .u64 0]
def gWd (B : Nat) : GPost := ⟨fun v => ∃ g,v = .pointer (some ⟨g,0,none⟩),AtWide B,⟨_,0,rfl⟩,fun _ _ _ hb h => by
 obtain ⟨g,h1,h2,h3⟩ := h
 exact ⟨g,h1,h2,h3.below hb h3.lt⟩,true⟩
theorem gWd_new {P : Program} {o : Oper} {a : Act} {w : World} {B : Nat} (hB : B ≤ w.heap.size) (h : (execOp a.eval o).run P w = .ok (.value (.pointer (some ⟨w.heap.size,0,none⟩))) (w.alloc (.cells #[.int .u64 0,.int .u64 0] 89))) : newAt P o a (gWd B) w :=
 ⟨_,_,h,(Below.refl _ _).alloc (Nat.le_refl _) _,⟨_,rfl⟩,⟨_,rfl,hB,Blk.new _ _ _⟩,fun _ => ⟨w.heap.size,rfl,Nat.le_refl _,by simp⟩⟩
theorem size_g {n : Int} (w : World) (h1 : -1152921504606846976 ≤ n) (h2 : n ≤ 1152921504606846976) :
  Calls Tryz.prog 55 #[.int .i64 n] w fun e w' => ∃ v,e = .returned v ∧ Below w.heap.size w w' ∧ (gV (.int .u64 (n.natAbs : Nat))).σ v ∧ (gV (.int .u64 (n.natAbs : Nat))).φ v w' :=
 (raSize n w h1 h2).mono fun _ _ ⟨he,hw⟩ => ⟨_,he,hw ▸ Below.refl _ _,rfl,trivial⟩
theorem prod_g {x y : Nat} (w : World) (hx : x < 18446744073709551616) (hy : y < 18446744073709551616) :
  Calls Tryz.prog 56 #[.int .u64 x,.int .u64 y] w fun e w' => ∃ v,e = .returned v ∧ Below w.heap.size w w' ∧ (gV (wideV (x * y))).σ v ∧ (gV (wideV (x * y))).φ v w' :=
 (raProduct x y hx hy w).mono fun _ _ ⟨he,hb⟩ => ⟨_,he,hb,rfl,trivial⟩
theorem wides_stored {o w W : World} {g6 g7 : Nat} {xn xd yn yd : Value} (hB : Below w.heap.size w W) (h6 : w.heap.size + 1 < g6) (h7 : w.heap.size + 1 < g7) (hne : g7 ≠ g6) (b6 : Blk W g6 89 #[.int .u64 0,.int .u64 0]) (b7 : Blk W g7 89 #[.int .u64 0,.int .u64 0])
  (d0 : Blk W w.heap.size 23 #[xn,xd]) (d1 : Blk W (w.heap.size + 1) 23 #[yn,yd]) (x0 x1 y0 y1 : Value) (hW : o = ((((W.setCell ⟨g6,0,none⟩ x0).setCell ⟨g6,1,none⟩ x1).setCell ⟨g7,0,none⟩ y0).setCell ⟨g7,1,none⟩ y1)) :
  Below w.heap.size w o ∧ Blk o g6 89 #[x0,x1] ∧ Blk o g7 89 #[y0,y1] ∧ Blk o w.heap.size 23 #[xn,xd] ∧ Blk o (w.heap.size + 1) 23 #[yn,yd] := by
 subst hW
 have k4 := fun {g : Nat} {t : TypeId} {c : Array Value} (hb : Blk W g t c) (h1 : g ≠ g6) (h2 : g ≠ g7) => (((hb.far (p := ⟨g6,0,none⟩) h1 x0).far (p := ⟨g6,1,none⟩) h1 x1).far (p := ⟨g7,0,none⟩) h2 y0).far (p := ⟨g7,1,none⟩) h2 y1
 exact ⟨(((hB.setCell (by show w.heap.size ≤ g6;omega) _).setCell (by show w.heap.size ≤ g6;omega) _).setCell (by show w.heap.size ≤ g7;omega) _).setCell (by show w.heap.size ≤ g7;omega) _,
  (((b6.set_ 0 x0).set_ 1 x1).far (p := ⟨g7,0,none⟩) (Ne.symm hne) y0).far (p := ⟨g7,1,none⟩) (Ne.symm hne) y1,(((b7.far (p := ⟨g6,0,none⟩) hne x0).far (p := ⟨g6,1,none⟩) hne x1).set_ 0 y0).set_ 1 y1,k4 d0 (by omega) (by omega),k4 d1 (by omega) (by omega)⟩
theorem cmp_nat {a b : FrT} (ha : frGood a = true) (hb : frGood b = true) (h0 : 0 ≤ a.num) (hb0 : 0 ≤ b.num) : (a.num * b.den < b.num * a.den ↔ a.num.natAbs * b.den.natAbs < b.num.natAbs * a.den.natAbs) ∧ (b.num * a.den < a.num * b.den ↔ b.num.natAbs * a.den.natAbs < a.num.natAbs * b.den.natAbs) := by
 have h1 := (good_bd ha).1
 have h2 := (good_bd hb).1
 obtain ⟨an,ad⟩ := a
 obtain ⟨bn,bd⟩ := b
 simp only at *
 obtain ⟨x,rfl⟩ := Int.eq_ofNat_of_zero_le h0
 obtain ⟨y,rfl⟩ := Int.eq_ofNat_of_zero_le hb0
 obtain ⟨u,rfl⟩ := Int.eq_ofNat_of_zero_le (show 0 ≤ ad by omega)
 obtain ⟨v,rfl⟩ := Int.eq_ofNat_of_zero_le (show 0 ≤ bd by omega)
 simp only [Int.natAbs_natCast]
 rw [← Int.natCast_mul,← Int.natCast_mul]
 omega
theorem cmp_neg {a b : FrT} (ha : frGood a = true) (hb : frGood b = true) (h0 : a.num < 0) (hb0 : 0 ≤ b.num) : cmpF a b = -1 := by
 have h1 := (good_bd ha).1
 have h2 := (good_bd hb).1
 unfold cmpF
 have e1 : a.num * b.den < 0 := Int.mul_neg_of_neg_of_pos h0 (by omega)
 have e2 : 0 ≤ b.num * a.den := Int.mul_nonneg hb0 (by omega)
 rw [if_pos (by omega)]
set_option maxRecDepth 100000 in
set_option maxHeartbeats 4000000 in
theorem raCmp (a b : FrT) (w : World) (ha : frGood a = true) (hb : frGood b = true) (hb0 : 0 ≤ b.num) :
  Calls Tryz.prog 31 #[a.val,b.val] w fun e w' => e = .returned (.tuple #[.int .i64 (cmpF a b),.int .i64 0]) ∧ Below w.heap.size w w' := by
 have hva := fun W => raValid a W
 have hvb := fun W => raValid b W
 rw [ha] at hva
 rw [hb] at hvb
 have HN := Lib.hid fun (h0 : 0 ≤ a.num) => cmp_nat ha hb h0 hb0
 have HG := Lib.hid fun (h0 : a.num < 0) => cmp_neg ha hb h0 hb0
 obtain ⟨a1,a2,a3,a4⟩ := good_bd ha
 obtain ⟨b1,b2,b3,b4⟩ := good_bd hb
 have wa : IntKind.u64.wrap a.den = ((a.den.natAbs : Nat) : Int) := by show a.den % 18446744073709551616 = _;omega
 have wb : IntKind.u64.wrap b.den = ((b.den.natAbs : Nat) : Int) := by show b.den % 18446744073709551616 = _;omega
 have hSa := fun W => size_g (n := a.num) W a3 a4
 have hSb := fun W => size_g (n := b.num) W b3 b4
 have hP1 := fun W => prod_g (x := a.num.natAbs) (y := b.den.natAbs) W (by omega) (by omega)
 have hP2 := fun W => prod_g (x := b.num.natAbs) (y := a.den.natAbs) W (by omega) (by omega)
 have dbn : decide (b.num < 0) = false := decide_eq_false (by omega)
 clear ha hb a1 a2 a3 a4 b1 b2 b3 b4
 have HV : Hid (cmpF a b = if a.num * b.den < b.num * a.den then -1 else if b.num * a.den < a.num * b.den then 1 else 0) := rfl
 generalize cmpF a b = cr at *
 obtain ⟨an,ad⟩ := a
 obtain ⟨bn,bd⟩ := b
 simp only at *
 have HSa := Lib.hid hSa
 have HSb := Lib.hid hSb
 have HP1 := Lib.hid hP1
 have HP2 := Lib.hid hP2
 clear hSa hSb hP1 hP2
 have D0 := (Blk.new w 23 #[.int .i64 an,.int .i64 ad]).alloc (.cells #[.int .i64 bn,.int .i64 bd] 23)
 have D1 := Blk.new (w.alloc (.cells #[.int .i64 an,.int .i64 ad] 23)) 23 #[.int .i64 bn,.int .i64 bd]
 rw [World.size_alloc] at D1
 have hB := ((Below.refl _ w).alloc (Nat.le_refl _) (.cells #[.int .i64 an,.int .i64 ad] 23)).alloc (by simp) (.cells #[.int .i64 bn,.int .i64 bd] 23)
 have hs : ((w.alloc (.cells #[.int .i64 an,.int .i64 ad] 23)).alloc (.cells #[.int .i64 bn,.int .i64 bd] 23)).heap.size = w.heap.size + 1 + 1 := by simp
 go_enter Tryz.func31,Tryz.ntmps31
 go_wp2_with fail
 generalize (w.alloc (.cells #[.int .i64 an,.int .i64 ad] 23)).alloc (.cells #[.int .i64 bn,.int .i64 bd] 23) = W1 at *
 refine (hva W1).mono ?_
 rintro e w2 ⟨rfl,hb2⟩
 have D0 := D0.below hb2 D0.lt
 have D1 := D1.below hb2 D1.lt
 have hB := hB.trans (hb2.mono hB.size)
 have hs : w.heap.size + 1 < w2.heap.size := by have := hb2.size;omega
 have u0 := D1.cell 0
 have u1 := D1.cell 1
 simp only [List.getElem?_toArray,List.getElem?_cons_succ,List.getElem?_cons_zero] at u0 u1
 go_wp2_with fail
 refine (hvb w2).mono ?_
 rintro e w3 ⟨rfl,hb3⟩
 clear u0 u1 hva hvb
 have D0 := Lib.hid (D0.below hb3 D0.lt)
 have D1 := Lib.hid (D1.below hb3 D1.lt)
 have HB := Lib.hid (hB.trans (hb3.mono hB.size))
 have Hs : Hid (w.heap.size + 1 < w3.heap.size) := by have := hb3.size;unfold Hid;omega
 clear hb2 hb3 hB hs
 go_wp2_with (exact Go.WalkKit.wp_stop)
 have y0 := D0.out.cell 0
 have y1 := D0.out.cell 1
 have y2 := D1.out.cell 0
 have y3 := D1.out.cell 1
 simp only [List.getElem?_toArray,List.getElem?_cons_succ,List.getElem?_cons_zero] at y0 y1 y2 y3
 have u0 := HeldB.cell y0
 have u1 := HeldB.cell y1
 have u2 := HeldB.cell y2
 have u3 := HeldB.cell y3
 clear y0 y1 y2 y3
 refine wp_region_apart 16 (fun jx => if jx = 2 then some (gV (.int .u64 (an.natAbs : Nat))) else if jx = 6 then some (gV (wideV (an.natAbs * bd.natAbs))) else if jx = 9 then some (gV (.int .u64 (bn.natAbs : Nat))) else if jx = 13 then some (gV (wideV (bn.natAbs * ad.natAbs))) else if jx = 14 then some (gWd w3.heap.size) else if jx = 15 then some (gWd w3.heap.size) else none) [6,7] (by kernel_rfl) (by kernel_rfl) (by kernel_rfl) (two_none rfl rfl) ?_
 simp only [List.take_succ_cons,List.take_zero,List.drop_succ_cons,List.drop_zero]
 refine wpG_quiet 2 (by kernel_rfl) (by rfl) (by decide) ?_
 simp only [List.take_succ_cons,List.take_zero,List.drop_succ_cons,List.drop_zero]
 repeat (go_big_quiet_step (fail))
 refine wpQuiet_nil ?_
 refine wpG_call rfl rfl (fun w1 _ _ => ⟨55,#[.int .i64 an],by go_simp,HSa.out w1⟩) ?_
 rintro _ rfl
 simp only [Act.put,List.setIfInBounds_toArray,List.set_cons_zero,List.set_cons_succ]
 refine wpG_quiet 3 (by kernel_rfl) (by rfl) (by decide) ?_
 simp only [List.take_succ_cons,List.take_zero,List.drop_succ_cons,List.drop_zero]
 repeat (go_big_quiet_step (fail))
 refine wpQuiet_nil ?_
 refine wpG_call rfl rfl (fun w1 _ _ => ⟨56,#[.int .u64 (an.natAbs : Nat),.int .u64 (bd.natAbs : Nat)],by go_simp,HP1.out w1⟩) ?_
 rintro _ rfl
 simp only [Act.put,List.setIfInBounds_toArray,List.set_cons_zero,List.set_cons_succ]
 refine wpG_quiet 2 (by kernel_rfl) (by rfl) (by decide) ?_
 simp only [List.take_succ_cons,List.take_zero,List.drop_succ_cons,List.drop_zero]
 repeat (go_big_quiet_step (fail))
 refine wpQuiet_nil ?_
 refine wpG_call rfl rfl (fun w1 _ _ => ⟨55,#[.int .i64 bn],by go_simp,HSb.out w1⟩) ?_
 rintro _ rfl
 simp only [Act.put,List.setIfInBounds_toArray,List.set_cons_zero,List.set_cons_succ]
 refine wpG_quiet 3 (by kernel_rfl) (by rfl) (by decide) ?_
 simp only [List.take_succ_cons,List.take_zero,List.drop_succ_cons,List.drop_zero]
 repeat (go_big_quiet_step (fail))
 refine wpQuiet_nil ?_
 refine wpG_call rfl rfl (fun w1 _ _ => ⟨56,#[.int .u64 (bn.natAbs : Nat),.int .u64 (ad.natAbs : Nat)],by go_simp,HP2.out w1⟩) ?_
 rintro _ rfl
 simp only [Act.put,List.setIfInBounds_toArray,List.set_cons_zero,List.set_cons_succ]
 refine wpG_new rfl rfl (fun w1 hb1 _ => gWd_new hb1.size (by go_simp)) ?_
 rintro _ ⟨g6,rfl⟩
 simp only [Act.put,List.setIfInBounds_toArray,List.set_cons_zero,List.set_cons_succ]
 refine wpG_new rfl rfl (fun w1 hb1 _ => gWd_new hb1.size (by go_simp)) ?_
 rintro _ ⟨g7,rfl⟩
 simp only [Act.put,List.setIfInBounds_toArray,List.set_cons_zero,List.set_cons_succ]
 refine wpG_nil ?_
 intro w8 hb8 hF hA
 have h6 : AtWide w3.heap.size (.pointer (some ⟨g6,0,none⟩)) w8 := hF 6
 have h7 : AtWide w3.heap.size (.pointer (some ⟨g7,0,none⟩)) w8 := hF 7
 have h67 : g7 ≠ g6 := fun e => (hA 6 (by simp) g6 rfl).2 7 (by simp) (by decide) (by rw [e];rfl)
 have D08 := D0.out.below hb8 D0.out.lt
 have D18 := D1.out.below hb8 D1.out.lt
 have B8 := HB.out.trans (hb8.mono HB.out.size)
 obtain ⟨_,e6,l6,b6⟩ := h6
 obtain ⟨_,e7,l7,b7⟩ := h7
 injection e6 with e6
 injection e6 with e6
 injection e6 with e6 _ _
 injection e7 with e7
 injection e7 with e7
 injection e7 with e7 _ _
 subst e6 e7
 have hs3 := Hs.out
 obtain ⟨B9,p6,p7,p0,p1⟩ := wides_stored B8 (by omega) (by omega) h67 b6 b7 D08 D18 (.int .u64 ((an.natAbs * bd.natAbs / 18446744073709551616 : Nat) : Int)) (.int .u64 ((an.natAbs * bd.natAbs % 18446744073709551616 : Nat) : Int)) (.int .u64 ((bn.natAbs * ad.natAbs / 18446744073709551616 : Nat) : Int)) (.int .u64 ((bn.natAbs * ad.natAbs % 18446744073709551616 : Nat) : Int)) rfl
 have HN' : Hid (0 ≤ an → (an * bd < bn * ad ↔ an.natAbs * bd.natAbs < bn.natAbs * ad.natAbs) ∧ (bn * ad < an * bd ↔ bn.natAbs * ad.natAbs < an.natAbs * bd.natAbs)) := HN.out
 have f60 := b6.frozen 0
 have f61 := b6.frozen 1
 have b7x := (b7.far (p := ⟨g6,0,none⟩) h67 (.int .u64 ((an.natAbs * bd.natAbs / 18446744073709551616 : Nat) : Int))).far (p := ⟨g6,1,none⟩) h67 (.int .u64 ((an.natAbs * bd.natAbs % 18446744073709551616 : Nat) : Int))
 have b7y := b7x.set_ 0 (.int .u64 ((bn.natAbs * ad.natAbs / 18446744073709551616 : Nat) : Int))
 have f70 := b7x.frozen 0
 have f71 := b7y.frozen 1
 have b70 := b7x.cell 0
 have b71 := b7y.cell 1
 have q60 := p6.cell 0
 have q61 := p6.cell 1
 have q70 := p7.cell 0
 have q71 := p7.cell 1
 have q00 := p0.cell 0
 have q10 := p1.cell 0
 have b60 := b6.cell 0
 have b61 := b6.cell 1
 simp only [List.setIfInBounds_toArray,List.set_cons_zero] at b71
 simp only [List.getElem?_toArray,List.getElem?_cons_succ,List.getElem?_cons_zero] at q60 q61 q70 q71 q00 q10 b60 b61 b70 b71
 generalize an.natAbs * bd.natAbs = m at *
 generalize bn.natAbs * ad.natAbs = n at *
 have hL1 := fun W => raLess m n W
 have hL2 := fun W => raLess n m W
 unfold wideV at *
 generalize ((m / 18446744073709551616 : Nat) : Int) = mh at *
 generalize ((m % 18446744073709551616 : Nat) : Int) = ml at *
 generalize ((n / 18446744073709551616 : Nat) : Int) = nh at *
 generalize ((n % 18446744073709551616 : Nat) : Int) = nl at *
 have P6 := Lib.hid p6
 have P7 := Lib.hid p7
 have B9 := Lib.hid B9
 clear b7x b7y HN HSa HSb HP1 HP2 h67 hs3 Hs l6 l7 b6 b7 p6 p7 p0 p1 B8 D08 D18 hA hF hb8 HB D0 D1 u0 u1 u2 u3
 by_cases c0 : an < 0
 ·have hcr := HG.out c0
  have d0 : decide (an < 0) = true := decide_eq_true c0
  subst hcr
  clear c0 HG HN' HV
  go_wp2_with fail
  go_ret2
  exact ⟨rfl,B9.out⟩
 ·have d0 : decide (an < 0) = false := decide_eq_false c0
  have hN := HN'.out (by omega)
  have HV2 : Hid (cr = if m < n then -1 else if n < m then 1 else 0) := by
   unfold Hid
   rw [HV.out]
   simp only [hN.1,hN.2]
  clear c0 HG HN' HV hN
  by_cases c1 : m < n
  ·have e1 : decide (m < n) = true := decide_eq_true c1
   rw [e1] at hL1
   have hcr : cr = -1 := by rw [HV2.out,if_pos c1]
   subst hcr
   clear c1 e1 HV2 hL2
   go_wp2_with fail
   refine (hL1 _).mono ?_
   rintro e w5 ⟨rfl,hb5⟩
   have hb := B9.out.trans (hb5.mono B9.out.size)
   go_wp2_with fail
   go_ret2
   exact ⟨rfl,hb⟩
  ·have e1 : decide (m < n) = false := decide_eq_false c1
   rw [e1] at hL1
   go_wp2_with fail
   refine (hL1 _).mono ?_
   rintro e w5 ⟨rfl,hb5⟩
   have HB5 := Lib.hid (B9.out.trans (hb5.mono B9.out.size))
   have P65 := P6.out.below hb5 P6.out.lt
   have P75 := P7.out.below hb5 P7.out.lt
   have q60 := P65.cell 0
   have q61 := P65.cell 1
   have q70 := P75.cell 0
   have q71 := P75.cell 1
   simp only [List.getElem?_toArray,List.getElem?_cons_succ,List.getElem?_cons_zero] at q60 q61 q70 q71
   clear P65 P75 hb5 P6 P7 B9 e1 hL1
   by_cases c2 : n < m
   ·have e2 : decide (n < m) = true := decide_eq_true c2
    rw [e2] at hL2
    have hcr : cr = 1 := by rw [HV2.out,if_neg c1,if_pos c2]
    subst hcr
    clear c1 c2 e2 HV2
    go_wp2_with fail
    refine (hL2 _).mono ?_
    rintro e w6 ⟨rfl,hb6⟩
    have hb := HB5.out.trans (hb6.mono HB5.out.size)
    go_wp2_with fail
    go_ret2
    exact ⟨rfl,hb⟩
   ·have e2 : decide (n < m) = false := decide_eq_false c2
    rw [e2] at hL2
    have hcr : cr = 0 := by rw [HV2.out,if_neg c1,if_neg c2]
    subst hcr
    clear c1 c2 e2 HV2
    go_wp2_with fail
    refine (hL2 _).mono ?_
    rintro e w6 ⟨rfl,hb6⟩
    have hb := HB5.out.trans (hb6.mono HB5.out.size)
    go_wp2_with fail
    go_ret2
    exact ⟨rfl,hb⟩
end Go.Proofs.YtknkhnahflmjiaaGreatDoor

namespace Go.Proofs.YtknkhnahflmjiaaGreatDoor
open Go.RowKit Go.Shelf
theorem mul_num (p q : Rat) : (p * q).num = p.num / ((p.num.natAbs.gcd q.den : Nat) : Int) * (q.num / ((q.num.natAbs.gcd p.den : Nat) : Int)) := by
 show (Rat.mul p q).num = _
 delta Rat.mul
 simp only [Int.divExact_eq_ediv]
theorem mul_den (p q : Rat) : (p * q).den = p.den / (q.num.natAbs.gcd p.den) * (q.den / (p.num.natAbs.gcd q.den)) := by
 show (Rat.mul p q).den = _
 delta Rat.mul
 simp only [Nat.divExact_eq_div]
theorem ediv_abs {a : Int} {g : Nat} (hg : 0 < g) (h : g ∣ a.natAbs) : (a / (g : Int)).natAbs = a.natAbs / g ∧ (a / (g : Int) < 0 ↔ a < 0) ∧ (a / (g : Int) = 0 ↔ a = 0) := by
 obtain ⟨k,hk⟩ : (g : Int) ∣ a := Int.ofNat_dvd_left.2 h
 subst hk
 have hg' : (g : Int) ≠ 0 := by omega
 rw [Int.mul_ediv_cancel_left _ hg',Int.natAbs_mul,Int.natAbs_natCast,Nat.mul_div_cancel_left _ hg]
 refine ⟨rfl,⟨fun h => Int.mul_neg_of_pos_of_neg (by omega) h,fun h => ?_⟩,⟨fun h => by rw [h,Int.mul_zero],fun h => ?_⟩⟩
 ·rcases (show k < 0 ∨ 0 ≤ k by omega) with h1 | h1
  ·exact h1
  ·have := Int.mul_nonneg (show (0 : Int) ≤ g by omega) h1
   omega
 ·rcases Int.mul_eq_zero.1 h with h | h
  ·omega
  ·exact h
theorem mul_abs (p q : Rat) : (p * q).num.natAbs = p.num.natAbs / (p.num.natAbs.gcd q.den) * (q.num.natAbs / (q.num.natAbs.gcd p.den)) := by
 have h1 := ediv_abs (a := p.num) (g := p.num.natAbs.gcd q.den) (Nat.gcd_pos_of_pos_right _ q.den_pos) (Nat.gcd_dvd_left _ _)
 have h2 := ediv_abs (a := q.num) (g := q.num.natAbs.gcd p.den) (Nat.gcd_pos_of_pos_right _ p.den_pos) (Nat.gcd_dvd_left _ _)
 rw [mul_num,Int.natAbs_mul,h1.1,h2.1]
theorem mul_neg_iff (p q : Rat) : (p * q).num < 0 ↔ ((p * q).num.natAbs ≠ 0 ∧ ((p.num < 0) ≠ (q.num < 0))) := by
 have h1 := (ediv_abs (a := p.num) (g := p.num.natAbs.gcd q.den) (Nat.gcd_pos_of_pos_right _ q.den_pos) (Nat.gcd_dvd_left _ _)).2.1
 have h2 := (ediv_abs (a := q.num) (g := q.num.natAbs.gcd p.den) (Nat.gcd_pos_of_pos_right _ p.den_pos) (Nat.gcd_dvd_left _ _)).2.1
 rw [mul_num]
 generalize p.num / ((p.num.natAbs.gcd q.den : Nat) : Int) = x at *
 generalize q.num / ((q.num.natAbs.gcd p.den : Nat) : Int) = y at *
 rw [Ne,Int.natAbs_eq_zero,← h1,← h2]
 rcases Int.lt_trichotomy x 0 with hx | hx | hx <;> rcases Int.lt_trichotomy y 0 with hy | hy | hy
 all_goals first
  | (subst hx;simp)
  | (subst hy;simp)
  | skip
 ·have := Int.mul_pos_of_neg_of_neg hx hy;simp [hx,hy];omega
 ·have := Int.mul_neg_of_neg_of_pos hx hy;simp [hx];omega
 ·have := Int.mul_neg_of_pos_of_neg hx hy;simp [hy];omega
 ·have := Int.mul_pos hx hy;simp;omega
def qOf (a : FrT) : Rat := mkRat a.num a.den.natAbs
theorem q_parts {a : FrT} (h : frGood a = true) : (qOf a).num = a.num ∧ (qOf a).den = a.den.natAbs := by
 unfold frGood at h
 simp only [Bool.and_eq_true,decide_eq_true_eq,beq_iff_eq] at h
 obtain ⟨⟨⟨⟨h1,_⟩,_⟩,_⟩,h5⟩ := h
 have hd : a.den.natAbs ≠ 0 := by omega
 have hg : a.num.natAbs.gcd a.den.natAbs = 1 := by omega
 unfold qOf
 rw [mkRat,dif_neg hd,Rat.normalize_eq]
 simp only [hg]
 exact ⟨by simp,by simp⟩
theorem q_den_pos {a : FrT} (h : frGood a = true) : ((qOf a).den : Int) = a.den := by
 have := (q_parts h).2
 unfold frGood at h
 simp only [Bool.and_eq_true,decide_eq_true_eq] at h
 omega
theorem fr_q {a : FrT} (h : frGood a = true) : frOf (qOf a) = a := by
 unfold frOf
 rw [q_den_pos h,(q_parts h).1]
theorem q_fr (q : Rat) : qOf (frOf q) = q := by
 unfold qOf frOf
 simp only [Int.natAbs_natCast]
 exact Rat.mkRat_self q
theorem good_q {q : Rat} (h : fracOk q = true) : frGood (frOf q) = true := by
 unfold fracOk at h
 simp only [Bool.and_eq_true,decide_eq_true_eq] at h
 have h1 := q.den_pos
 have h2 : q.num.natAbs.gcd q.den = 1 := q.reduced
 unfold frGood frOf
 simp only [Bool.and_eq_true,decide_eq_true_eq,beq_iff_eq,Int.natAbs_natCast,h2]
 omega
theorem add_parts (p q : Rat) (n : Int) (hn : n = p.num * ((q.den / p.den.gcd q.den : Nat) : Int) + q.num * ((p.den / p.den.gcd q.den : Nat) : Int)) :
  (p + q).num = n / ((n.natAbs.gcd (p.den.gcd q.den) : Nat) : Int) ∧ (p + q).den = p.den / p.den.gcd q.den * (q.den / n.natAbs.gcd (p.den.gcd q.den)) := by
 subst hn
 have key : p + q = Rat.add p q := rfl
 rw [key]
 delta Rat.add
 dsimp only
 by_cases h : p.den.gcd q.den = 1
 ·rw [dif_pos h]
  simp [h]
 ·rw [dif_neg h,Rat.maybeNormalize_eq]
  refine ⟨by dsimp only;exact Int.divExact_eq_ediv ..,?_⟩
  dsimp only
  exact Nat.mul_div_assoc _ (Nat.dvd_trans (Nat.gcd_dvd_right _ _) (Nat.gcd_dvd_right _ _))
theorem inv_parts (p : Rat) (h : p.num ≠ 0) : (p⁻¹).num = (if p.num < 0 then -(p.den : Int) else (p.den : Int)) ∧ (p⁻¹).den = p.num.natAbs := by
 have key : p⁻¹ = Rat.inv p := rfl
 rw [key]
 delta Rat.inv
 by_cases h1 : p.num < 0
 ·rw [dif_pos h1,if_pos h1];exact ⟨rfl,rfl⟩
 ·rw [dif_neg h1,dif_pos (by omega),if_neg h1];exact ⟨rfl,rfl⟩
end Go.Proofs.YtknkhnahflmjiaaGreatDoor

namespace Go.Proofs.YtknkhnahflmjiaaGreatDoor
open Go.RowKit Go.Shelf
def signV (neg : Bool) (n d : Nat) : Value := if n ≤ 1152921504606846976 ∧ d ≤ 1152921504606846976 then .tuple #[.agg #[.int .i64 (if neg = true then -(n : Int) else (n : Int)),.int .i64 (d : Int)],.int .i64 0] else .tuple #[.agg #[.int .i64 0,.int .i64 0],.int .i64 5]
theorem frac_sign {q : Rat} {n d : Nat} {neg : Bool} (hn : q.num.natAbs = n) (hd : q.den = d) (hs : q.num < 0 ↔ neg = true) : fracV q = signV neg n d := by
 unfold fracV signV
 by_cases h : n ≤ 1152921504606846976 ∧ d ≤ 1152921504606846976
 ·rw [if_pos h,if_pos (by unfold fracOk;rw [hn,hd];simpa using h),hd]
  have : q.num = if neg = true then -(n : Int) else (n : Int) := by
   by_cases hg : neg = true
   ·rw [if_pos hg];have := hs.2 hg;omega
   ·rw [if_neg hg];have : ¬ q.num < 0 := fun h => hg (hs.1 h);omega
  rw [this]
 ·rw [if_neg h,if_neg]
  unfold fracOk
  rw [hn,hd]
  simpa using h
theorem frac_big {q : Rat} (h : ¬ (q.num.natAbs ≤ 1152921504606846976 ∧ q.den ≤ 1152921504606846976)) : fracV q = .tuple #[.agg #[.int .i64 0,.int .i64 0],.int .i64 5] := by
 unfold fracV
 rw [if_neg]
 unfold fracOk
 simpa using h
theorem mul_go {a b : FrT} (ha : frGood a = true) (hb : frGood b = true) {n d : Nat} (hn : n = a.num.natAbs / (a.num.natAbs.gcd b.den.natAbs) * (b.num.natAbs / (b.num.natAbs.gcd a.den.natAbs))) (hd : d = a.den.natAbs / (b.num.natAbs.gcd a.den.natAbs) * (b.den.natAbs / (a.num.natAbs.gcd b.den.natAbs))) :
  (qOf a * qOf b).num.natAbs = n ∧ (qOf a * qOf b).den = d ∧ ((qOf a * qOf b).num < 0 ↔ (decide (0 < n) && (decide (a.num < 0) != decide (b.num < 0))) = true) := by
 obtain ⟨a1,a2⟩ := q_parts ha
 obtain ⟨b1,b2⟩ := q_parts hb
 have h1 := mul_abs (qOf a) (qOf b)
 have h2 := mul_den (qOf a) (qOf b)
 have h3 := mul_neg_iff (qOf a) (qOf b)
 rw [a1,a2,b1,b2] at h1 h2
 rw [h1,a1,b1] at h3
 refine ⟨h1.trans hn.symm,h2.trans hd.symm,?_⟩
 rw [h3,← hn]
 simp only [Bool.and_eq_true,decide_eq_true_eq,bne_iff_ne,ne_eq]
 refine and_congr (by omega) ?_
 by_cases x : a.num < 0 <;> by_cases y : b.num < 0 <;> simp [x,y]
def invF (b : FrT) : FrT := if b.num < 0 then ⟨-b.den,-b.num⟩ else ⟨b.den,b.num⟩
theorem inv_fr {b : FrT} (hb : frGood b = true) (h0 : b.num ≠ 0) : frGood (invF b) = true ∧ qOf (invF b) = (qOf b)⁻¹ := by
 obtain ⟨b1,b2⟩ := q_parts hb
 obtain ⟨i1,i2⟩ := inv_parts (qOf b) (by rw [b1];exact h0)
 rw [b1,q_den_pos hb] at i1
 rw [b1] at i2
 have hd := good_bd hb
 have e : frOf (qOf b)⁻¹ = invF b := by
  unfold frOf invF
  rw [i1,i2]
  split
  ·congr 1;omega
  ·congr 1;omega
 have hok : fracOk (qOf b)⁻¹ = true := by
  unfold fracOk
  rw [i1,i2,Bool.and_eq_true,decide_eq_true_iff,decide_eq_true_iff]
  split <;> omega
 refine ⟨by rw [← e];exact good_q hok,by rw [← e,q_fr]⟩
set_option maxHeartbeats 1000000 in
theorem raSigned (neg : Bool) (n d : Nat) (w : World) : Calls Tryz.prog 57 #[.bool neg,.int .u64 n,.int .u64 d] w fun e w' => e = .returned (signV neg n d) ∧ Below w.heap.size w w' := by
 by_cases h1 : n ≤ 1152921504606846976
 rotate_left
 ·have d1 : decide ((1152921504606846976 : Int) < (n : Int)) = true := decide_eq_true (by omega)
  have d2 : decide (1152921504606846976 < n) = true := decide_eq_true (by omega)
  have HV : Hid (signV neg n d = .tuple #[.agg #[.int .i64 0,.int .i64 0],.int .i64 5]) := by unfold Hid signV;rw [if_neg (by omega)]
  clear h1
  go_enter Tryz.func57,Tryz.ntmps57
  go_wp2_with fail
  have z0 := (Blk.new w 23 #[.int .i64 0,.int .i64 0]).cell 0
  have z1 := (Blk.new w 23 #[.int .i64 0,.int .i64 0]).cell 1
  simp only [List.getElem?_toArray,List.getElem?_cons_succ,List.getElem?_cons_zero] at z0 z1
  refine bodyPost_ret (v := .tuple #[.agg #[.int .i64 0,.int .i64 0],.int .i64 5]) (by simp [results,Tryz.results57,go_sem,z0,z1]) rfl ?_
  exact ⟨by rw [HV.out],(Below.refl _ _).alloc (Nat.le_refl _) _⟩
 by_cases h2 : d ≤ 1152921504606846976
 rotate_left
 ·have d1 : decide ((1152921504606846976 : Int) < (n : Int)) = false := decide_eq_false (by omega)
  have d2 : decide (1152921504606846976 < n) = false := decide_eq_false (by omega)
  have d3 : decide ((1152921504606846976 : Int) < (d : Int)) = true := decide_eq_true (by omega)
  have d4 : decide (1152921504606846976 < d) = true := decide_eq_true (by omega)
  have HV : Hid (signV neg n d = .tuple #[.agg #[.int .i64 0,.int .i64 0],.int .i64 5]) := by unfold Hid signV;rw [if_neg (by omega)]
  clear h1 h2
  go_enter Tryz.func57,Tryz.ntmps57
  go_wp2_with fail
  have z0 := (Blk.new w 23 #[.int .i64 0,.int .i64 0]).cell 0
  have z1 := (Blk.new w 23 #[.int .i64 0,.int .i64 0]).cell 1
  simp only [List.getElem?_toArray,List.getElem?_cons_succ,List.getElem?_cons_zero] at z0 z1
  refine bodyPost_ret (v := .tuple #[.agg #[.int .i64 0,.int .i64 0],.int .i64 5]) (by simp [results,Tryz.results57,go_sem,z0,z1]) rfl ?_
  exact ⟨by rw [HV.out],(Below.refl _ _).alloc (Nat.le_refl _) _⟩
 have d1 : decide ((1152921504606846976 : Int) < (n : Int)) = false := decide_eq_false (by omega)
 have d2 : decide (1152921504606846976 < n) = false := decide_eq_false (by omega)
 have d3 : decide ((1152921504606846976 : Int) < (d : Int)) = false := decide_eq_false (by omega)
 have d4 : decide (1152921504606846976 < d) = false := decide_eq_false (by omega)
 have w1 : IntKind.i64.wrap (n : Int) = (n : Int) := IntWalk.i64_in _ (by omega)
 have w2 : IntKind.i64.wrap (d : Int) = (d : Int) := IntWalk.i64_in _ (by omega)
 have w3 : IntKind.i64.wrap (-(n : Int)) = -(n : Int) := IntWalk.i64_in _ (by omega)
 have HV : Hid (signV neg n d = .tuple #[.agg #[.int .i64 (if neg = true then -(n : Int) else (n : Int)),.int .i64 (d : Int)],.int .i64 0]) := by unfold Hid signV;rw [if_pos ⟨h1,h2⟩]
 clear h1 h2
 cases neg with
 | true =>
  go_enter Tryz.func57,Tryz.ntmps57
  go_wp2_with fail
  have z0 := (Blk.new w 23 #[.int .i64 (-(n : Int)),.int .i64 (d : Int)]).cell 0
  have z1 := (Blk.new w 23 #[.int .i64 (-(n : Int)),.int .i64 (d : Int)]).cell 1
  simp only [List.getElem?_toArray,List.getElem?_cons_succ,List.getElem?_cons_zero] at z0 z1
  refine bodyPost_ret (v := .tuple #[.agg #[.int .i64 (-(n : Int)),.int .i64 (d : Int)],.int .i64 0]) (by simp [results,Tryz.results57,go_sem,z0,z1]) rfl ?_
  exact ⟨by rw [HV.out];rfl,(Below.refl _ _).alloc (Nat.le_refl _) _⟩
 | false =>
  go_enter Tryz.func57,Tryz.ntmps57
  go_wp2_with fail
  have z0 := (Blk.new w 23 #[.int .i64 (n : Int),.int .i64 (d : Int)]).cell 0
  have z1 := (Blk.new w 23 #[.int .i64 (n : Int),.int .i64 (d : Int)]).cell 1
  simp only [List.getElem?_toArray,List.getElem?_cons_succ,List.getElem?_cons_zero] at z0 z1
  refine bodyPost_ret (v := .tuple #[.agg #[.int .i64 (n : Int),.int .i64 (d : Int)],.int .i64 0]) (by simp [results,Tryz.results57,go_sem,z0,z1]) rfl ?_
  exact ⟨by rw [HV.out];rfl,(Below.refl _ _).alloc (Nat.le_refl _) _⟩
theorem made_q {q : Rat} {N D : Nat} {neg : Bool} (hD : 0 < D) (hq : q = mkRat (if neg = true then -(N : Int) else (N : Int)) D) : fracV q = signV neg (N / N.gcd D) (D / N.gcd D) := by
 by_cases h0 : N = 0
 ·subst h0
  have e : (if neg = true then -((0 : Nat) : Int) else ((0 : Nat) : Int)) = 0 := by cases neg <;> rfl
  rw [e,Rat.zero_mkRat] at hq
  rw [hq,Nat.gcd_zero_left,Nat.zero_div,Nat.div_self hD]
  cases neg <;> rfl
 ·have hD0 : D ≠ 0 := by omega
  have hx : (if neg = true then -(N : Int) else (N : Int)).natAbs = N := by cases neg <;> simp
  have hg := ediv_abs (a := if neg = true then -(N : Int) else (N : Int)) (g := N.gcd D) (Nat.gcd_pos_of_pos_right _ hD) (by rw [hx];exact Nat.gcd_dvd_left _ _)
  rw [mkRat,dif_neg hD0,Rat.normalize_eq] at hq
  simp only [hx] at hq
  rw [hx] at hg
  refine frac_sign ?_ ?_ ?_
  ·rw [hq];exact hg.1
  ·rw [hq]
  ·rw [hq,hg.2.1]
   cases neg with
   | true => first | (simp;done) | (simp;omega)
   | false => first | (simp;done) | (simp;omega)
end Go.Proofs.YtknkhnahflmjiaaGreatDoor

namespace Go.Proofs.YtknkhnahflmjiaaGreatDoor
theorem cmp_q {a b : FrT} (ha : frGood a = true) (hb : frGood b = true) : (cmpF a b = -1 ↔ qOf a < qOf b) ∧ (cmpF a b = 1 ↔ qOf b < qOf a) := by
 rw [Rat.lt_iff,Rat.lt_iff,(q_parts ha).1,(q_parts hb).1,q_den_pos ha,q_den_pos hb]
 unfold cmpF
 refine ⟨?_,?_⟩
 ·split
  ·rename_i h;exact ⟨fun _ => h,fun _ => rfl⟩
  ·rename_i h;exact ⟨fun e => by split at e <;> omega,fun e => absurd e h⟩
 ·split
  ·rename_i h;exact ⟨fun e => by omega,fun e => by omega⟩
  ·split
   ·rename_i h;exact ⟨fun _ => h,fun _ => rfl⟩
   ·rename_i h;exact ⟨fun e => by omega,fun e => absurd e h⟩
theorem cmp_two {a b : FrT} : cmpF a b = -1 ∨ cmpF a b = 0 ∨ cmpF a b = 1 := by
 unfold cmpF
 split
 ·exact .inl rfl
 ·split
  ·exact .inr (.inr rfl)
  ·exact .inr (.inl rfl)
end Go.Proofs.YtknkhnahflmjiaaGreatDoor

namespace Go.Proofs.YtknkhnahflmjiaaGreatDoor
def over23 (m : Int) (f a : FrT) : Bool := fracOk (qOf a * qOf f) && decide (0 < cmpF (frOf (qOf a * qOf f)) ⟨m,1⟩)
theorem good_one {m : Int} (h1 : -1152921504606846976 ≤ m) (h2 : m ≤ 1152921504606846976) : frGood ⟨m,1⟩ = true := by
 unfold frGood
 simp only [Bool.and_eq_true,decide_eq_true_eq,beq_iff_eq]
 refine ⟨⟨⟨⟨by omega,by omega⟩,h1⟩,h2⟩,?_⟩
 show ((Nat.gcd m.natAbs 1 : Nat) : Int) = 1
 rw [Nat.gcd_one_right]
 rfl
theorem q_nonneg {a : FrT} (h : frGood a = true) (h0 : 0 ≤ a.num) : 0 ≤ qOf a := by
 have := (q_parts h).1
 exact Rat.num_nonneg.1 (by omega)
theorem cmpF_lt {a b : FrT} (ha : frGood a = true) (hb : frGood b = true) : cmpF a b < 0 ↔ qOf a < qOf b := by
 have h := (cmp_q ha hb).1
 have := @cmp_two a b
 rw [← h]
 omega
section
variable {l : List FrT} {m : Int} {f : FrT} (hg : ∀ a ∈ l,frGood a = true) (hl : 0 < l.length) (hm : 1 ≤ m ∧ m ≤ 67108864) (hf : frGood f = true) (hf0 : 0 ≤ f.num) (hk : ∀ a ∈ l,fracOk (qOf a * qOf f) = true)
include hg hl in
end
end Go.Proofs.YtknkhnahflmjiaaGreatDoor

namespace Go.Proofs.YtknkhnahflmjiaaGreatDoor
def addNum (s t : Bool) (x y : Nat) : Nat := if s = t then x + y else if x < y then y - x else x - y
def addNeg (s t : Bool) (x y : Nat) : Bool := if s = t then s else if x < y then !s else s
theorem add_sign {a b : Int} {u v : Nat} :
  (a * u + b * v).natAbs = addNum (decide (a < 0)) (decide (b < 0)) (a.natAbs * u) (b.natAbs * v) ∧
   ((a * u + b * v).natAbs ≠ 0 → (a * u + b * v < 0 ↔ addNeg (decide (a < 0)) (decide (b < 0)) (a.natAbs * u) (b.natAbs * v) = true)) := by
 have ha : a * u = if a < 0 then -((a.natAbs * u : Nat) : Int) else ((a.natAbs * u : Nat) : Int) := by
  rw [Int.natCast_mul]
  split
  ·rw [show a = -(a.natAbs : Int) by omega,Int.neg_mul];simp
  ·rw [show a = (a.natAbs : Int) by omega];simp
 have hb : b * v = if b < 0 then -((b.natAbs * v : Nat) : Int) else ((b.natAbs * v : Nat) : Int) := by
  rw [Int.natCast_mul]
  split
  ·rw [show b = -(b.natAbs : Int) by omega,Int.neg_mul];simp
  ·rw [show b = (b.natAbs : Int) by omega];simp
 rw [ha,hb]
 generalize a.natAbs * u = x
 generalize b.natAbs * v = y
 unfold addNum addNeg
 by_cases h1 : a < 0 <;> by_cases h2 : b < 0 <;> by_cases h3 : x < y <;> simp [h1,h2,h3] <;> omega
theorem add_go {a b : FrT} (ha : frGood a = true) (hb : frGood b = true) {g x y n m : Nat} (hg : g = a.den.natAbs.gcd b.den.natAbs) (hx : x = a.num.natAbs * (b.den.natAbs / g)) (hy : y = b.num.natAbs * (a.den.natAbs / g))
  (hn : n = addNum (decide (a.num < 0)) (decide (b.num < 0)) x y) (hm : m = g.gcd (n % g)) :
  (n = 0 → qOf a + qOf b = 0) ∧ (n ≠ 0 → (qOf a + qOf b).num.natAbs = n / m ∧ (qOf a + qOf b).den = a.den.natAbs / g * (b.den.natAbs / m) ∧ ((qOf a + qOf b).num < 0 ↔ addNeg (decide (a.num < 0)) (decide (b.num < 0)) x y = true)) := by
 obtain ⟨a1,a2⟩ := q_parts ha
 obtain ⟨b1,b2⟩ := q_parts hb
 obtain ⟨p1,p2⟩ := add_parts (qOf a) (qOf b) _ rfl
 rw [a1,a2,b1,b2,← hg] at p1 p2
 obtain ⟨s1,s2⟩ := @add_sign a.num b.num (b.den.natAbs / g) (a.den.natAbs / g)
 rw [← hx,← hy,← hn] at s1
 rw [← hx,← hy] at s2
 rw [s1] at p1 p2 s2
 have hgm : n.gcd g = m := by rw [hm,Nat.gcd_comm,Nat.gcd_rec,Nat.gcd_comm]
 rw [hgm] at p1 p2
 have hg0 : 0 < g := by rw [hg];exact Nat.gcd_pos_of_pos_left _ (by have := (good_bd ha).1;omega)
 have hm0 : 0 < m := by rw [← hgm];exact Nat.gcd_pos_of_pos_right _ hg0
 have hmn : m ∣ n := by rw [← hgm];exact Nat.gcd_dvd_left _ _
 obtain ⟨e1,e2,-⟩ := ediv_abs (a := a.num * ((b.den.natAbs / g : Nat) : Int) + b.num * ((a.den.natAbs / g : Nat) : Int)) (g := m) hm0 (by rw [s1];exact hmn)
 rw [s1] at e1
 refine ⟨fun h0 => ?_,fun h0 => ⟨by rw [p1,e1],p2,?_⟩⟩
 ·have : (qOf a + qOf b).num = 0 := by
   rw [p1]
   have : a.num * ((b.den.natAbs / g : Nat) : Int) + b.num * ((a.den.natAbs / g : Nat) : Int) = 0 := by omega
   rw [this,Int.zero_ediv]
  exact Rat.num_eq_zero.1 this
 ·rw [p1,e2]
  exact s2 h0
theorem add_bd {a b : FrT} (ha : frGood a = true) (hb : frGood b = true) {g : Nat} (hg : g = a.den.natAbs.gcd b.den.natAbs) : 0 < g ∧ g ≤ 1152921504606846976 ∧ a.den.natAbs / g ≤ 1152921504606846976 ∧ b.den.natAbs / g ≤ 1152921504606846976 ∧ 0 < b.den.natAbs / g := by
 have h1 := good_bd ha
 have h2 := good_bd hb
 have hg0 : 0 < g := by rw [hg];exact Nat.gcd_pos_of_pos_left _ (by omega)
 have hgl : g ≤ a.den.natAbs := by rw [hg];exact Nat.gcd_le_left _ (by omega)
 have hgr : g ≤ b.den.natAbs := by rw [hg];exact Nat.gcd_le_right _ (by omega)
 have e1 := Nat.div_le_self a.den.natAbs g
 have e2 := Nat.div_le_self b.den.natAbs g
 exact ⟨hg0,by omega,by omega,by omega,Nat.div_pos hgr hg0⟩
theorem cmp_both {a b : FrT} (ha : frGood a = true) (hb : frGood b = true) (h0 : a.num < 0) (hb0 : b.num < 0) : (a.num * b.den < b.num * a.den ↔ b.num.natAbs * a.den.natAbs < a.num.natAbs * b.den.natAbs) ∧ (b.num * a.den < a.num * b.den ↔ a.num.natAbs * b.den.natAbs < b.num.natAbs * a.den.natAbs) := by
 have h1 := (good_bd ha).1
 have h2 := (good_bd hb).1
 obtain ⟨an,ad⟩ := a
 obtain ⟨bn,bd⟩ := b
 simp only at *
 obtain ⟨x,rfl⟩ : ∃ x : Nat,an = -(x : Int) := ⟨an.natAbs,by omega⟩
 obtain ⟨y,rfl⟩ : ∃ y : Nat,bn = -(y : Int) := ⟨bn.natAbs,by omega⟩
 obtain ⟨u,rfl⟩ := Int.eq_ofNat_of_zero_le (show 0 ≤ ad by omega)
 obtain ⟨v,rfl⟩ := Int.eq_ofNat_of_zero_le (show 0 ≤ bd by omega)
 simp only [Int.natAbs_natCast,Int.natAbs_neg,Int.neg_mul]
 rw [← Int.natCast_mul,← Int.natCast_mul]
 omega
theorem cmp_pos {a b : FrT} (ha : frGood a = true) (hb : frGood b = true) (h0 : 0 ≤ a.num) (hb0 : b.num < 0) : cmpF a b = 1 := by
 have h1 := (good_bd ha).1
 have h2 := (good_bd hb).1
 unfold cmpF
 have e1 : b.num * a.den < 0 := Int.mul_neg_of_neg_of_pos hb0 (by omega)
 have e2 : 0 ≤ a.num * b.den := Int.mul_nonneg h0 (by omega)
 rw [if_neg (by omega),if_pos (by omega)]
end Go.Proofs.YtknkhnahflmjiaaGreatDoor
