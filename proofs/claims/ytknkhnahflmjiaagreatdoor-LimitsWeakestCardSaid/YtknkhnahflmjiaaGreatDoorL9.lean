/- Parts of the proof, laid into one text: CmpN, LimW, LawWeak. -/
import Derived.BigQuiet
import Derived.Deep.AppendLies
import Derived.Deep.DeepCutAuto
import Derived.Deep.Draws
import Derived.Deep.LoopGhost
import Derived.Deep.QuietTactic
import Derived.Deep.RegionHeld3
import Derived.Deep.RegionLaw
import Derived.IntWalk
import Derived.Laws.AppendOwnNone
import Derived.Laws.Bits64b
import Derived.Lib.Hide
import Derived.Lib.ItoaNum
import Derived.LoopIn
import Derived.LoopNIn
import Derived.Maps.AppendAt
import Derived.Maps.Own
import Derived.Maps.OwnOps
import Derived.Maps.OwnSet
import Derived.Maps.Views
import Derived.Outline
import Derived.OwnWalkIn
import Derived.PlainAid
import Derived.RangeFuncBox
import Derived.RangeFuncLeaves
import Derived.Shelf.Abstract
import Derived.Shelf.Bits.Mul64
import Derived.Shelf.Small.Bits
import Derived.Shelf.Spec.BitsCarry
import Derived.Shelf.Spec.SlicesGrow
import Derived.Shelf.Strconv.Itoa3
import Derived.StillTail
import Derived.StillTailTactics
import Derived.TacticsInMore
import Derived.Test.YtknkhnahflmjiaaGreatDoorC1
import Derived.Test.YtknkhnahflmjiaaGreatDoorC2
import Derived.Test.YtknkhnahflmjiaaGreatDoorC3
import Derived.Test.YtknkhnahflmjiaaGreatDoorC4
import Derived.Test.YtknkhnahflmjiaaGreatDoorC5
import Derived.Test.YtknkhnahflmjiaaGreatDoorC6
import Derived.Test.YtknkhnahflmjiaaGreatDoorC7
import Derived.Test.YtknkhnahflmjiaaGreatDoorD1
import Derived.Test.YtknkhnahflmjiaaGreatDoorD2
import Derived.Test.YtknkhnahflmjiaaGreatDoorD3
import Derived.Test.YtknkhnahflmjiaaGreatDoorD4
import Derived.Test.YtknkhnahflmjiaaGreatDoorG1
import Derived.Test.YtknkhnahflmjiaaGreatDoorL1
import Derived.Test.YtknkhnahflmjiaaGreatDoorL2
import Derived.Test.YtknkhnahflmjiaaGreatDoorL3
import Derived.Test.YtknkhnahflmjiaaGreatDoorL4
import Derived.Test.YtknkhnahflmjiaaGreatDoorL5
import Derived.Test.YtknkhnahflmjiaaGreatDoorL6
import Derived.Test.YtknkhnahflmjiaaGreatDoorL7
import Derived.Test.YtknkhnahflmjiaaGreatDoorL8
import Derived.Test.YtknkhnahflmjiaaGreatDoorProg
import Derived.WalkKit
import Derived.WalkLawsBesides
import Derived.WalkSpells

namespace Go.Proofs.YtknkhnahflmjiaaGreatDoor
open Go.RowKit Go.Shelf
set_option maxRecDepth 100000 in
set_option maxHeartbeats 4000000 in
theorem raCmpN (a b : FrT) (w : World) (ha : frGood a = true) (hb : frGood b = true) (hb0 : b.num < 0) :
  Calls Tryz.prog 31 #[a.val,b.val] w fun e w' => e = .returned (.tuple #[.int .i64 (cmpF a b),.int .i64 0]) ∧ Below w.heap.size w w' := by
 have hva := fun W => raValid a W
 have hvb := fun W => raValid b W
 rw [ha] at hva
 rw [hb] at hvb
 have HN := Lib.hid fun (h0 : a.num < 0) => cmp_both ha hb h0 hb0
 have HG := Lib.hid fun (h0 : 0 ≤ a.num) => cmp_pos ha hb h0 hb0
 obtain ⟨a1,a2,a3,a4⟩ := good_bd ha
 obtain ⟨b1,b2,b3,b4⟩ := good_bd hb
 have wa : IntKind.u64.wrap a.den = ((a.den.natAbs : Nat) : Int) := by show a.den % 18446744073709551616 = _;omega
 have wb : IntKind.u64.wrap b.den = ((b.den.natAbs : Nat) : Int) := by show b.den % 18446744073709551616 = _;omega
 have hSa := fun W => size_g (n := a.num) W a3 a4
 have hSb := fun W => size_g (n := b.num) W b3 b4
 have hP1 := fun W => prod_g (x := a.num.natAbs) (y := b.den.natAbs) W (by omega) (by omega)
 have hP2 := fun W => prod_g (x := b.num.natAbs) (y := a.den.natAbs) W (by omega) (by omega)
 have dbn : decide (b.num < 0) = true := decide_eq_true hb0
 clear ha hb a1 a2 a3 a4 b1 b2 b3 b4
 have HV : Hid (cmpF a b = if a.num * b.den < b.num * a.den then -1 else if b.num * a.den < a.num * b.den then 1 else 0) := rfl
 generalize cmpF a b = cr at *
 obtain ⟨an,ad⟩ := a
 obtain ⟨bn,bd⟩ := b
 simp only at *
 have HSa := Lib.hid hSa
 have HSb := Lib.hid hSb
 have HP1 := Lib.hid hP1
 have HP2 := Lib.hid hP2
 clear hSa hSb hP1 hP2
 have D0 := (Blk.new w 23 #[.int .i64 an,.int .i64 ad]).alloc (.cells #[.int .i64 bn,.int .i64 bd] 23)
 have D1 := Blk.new (w.alloc (.cells #[.int .i64 an,.int .i64 ad] 23)) 23 #[.int .i64 bn,.int .i64 bd]
 rw [World.size_alloc] at D1
 have hB := ((Below.refl _ w).alloc (Nat.le_refl _) (.cells #[.int .i64 an,.int .i64 ad] 23)).alloc (by simp) (.cells #[.int .i64 bn,.int .i64 bd] 23)
 have hs : ((w.alloc (.cells #[.int .i64 an,.int .i64 ad] 23)).alloc (.cells #[.int .i64 bn,.int .i64 bd] 23)).heap.size = w.heap.size + 1 + 1 := by simp
 go_enter Tryz.func31,Tryz.ntmps31
 go_wp2_with fail
 generalize (w.alloc (.cells #[.int .i64 an,.int .i64 ad] 23)).alloc (.cells #[.int .i64 bn,.int .i64 bd] 23) = W1 at *
 refine (hva W1).mono ?_
 rintro e w2 ⟨rfl,hb2⟩
 have D0 := D0.below hb2 D0.lt
 have D1 := D1.below hb2 D1.lt
 have hB := hB.trans (hb2.mono hB.size)
 have hs : w.heap.size + 1 < w2.heap.size := by have := hb2.size;omega
 have u0 := D1.cell 0
 have u1 := D1.cell 1
 simp only [List.getElem?_toArray,List.getElem?_cons_succ,List.getElem?_cons_zero] at u0 u1
 go_wp2_with fail
 refine (hvb w2).mono ?_
 rintro e w3 ⟨rfl,hb3⟩
 clear u0 u1 hva hvb
 have D0 := Lib.hid (D0.below hb3 D0.lt)
 have D1 := Lib.hid (D1.below hb3 D1.lt)
 have HB := Lib.hid (hB.trans (hb3.mono hB.size))
 have Hs : Hid (w.heap.size + 1 < w3.heap.size) := by have := hb3.size;unfold Hid;omega
 clear hb2 hb3 hB hs
 go_wp2_with (exact Go.WalkKit.wp_stop)
 have y0 := D0.out.cell 0
 have y1 := D0.out.cell 1
 have y2 := D1.out.cell 0
 have y3 := D1.out.cell 1
 simp only [List.getElem?_toArray,List.getElem?_cons_succ,List.getElem?_cons_zero] at y0 y1 y2 y3
 have u0 := HeldB.cell y0
 have u1 := HeldB.cell y1
 have u2 := HeldB.cell y2
 have u3 := HeldB.cell y3
 clear y0 y1 y2 y3
 refine wp_region_apart 16 (fun jx => if jx = 2 then some (gV (.int .u64 (an.natAbs : Nat))) else if jx = 6 then some (gV (wideV (an.natAbs * bd.natAbs))) else if jx = 9 then some (gV (.int .u64 (bn.natAbs : Nat))) else if jx = 13 then some (gV (wideV (bn.natAbs * ad.natAbs))) else if jx = 14 then some (gWd w3.heap.size) else if jx = 15 then some (gWd w3.heap.size) else none) [6,7] (by kernel_rfl) (by kernel_rfl) (by kernel_rfl) (two_none rfl rfl) ?_
 simp only [List.take_succ_cons,List.take_zero,List.drop_succ_cons,List.drop_zero]
 refine wpG_quiet 2 (by kernel_rfl) (by rfl) (by decide) ?_
 simp only [List.take_succ_cons,List.take_zero,List.drop_succ_cons,List.drop_zero]
 repeat (go_big_quiet_step (fail))
 refine wpQuiet_nil ?_
 refine wpG_call rfl rfl (fun w1 _ _ => ⟨55,#[.int .i64 an],by go_simp,HSa.out w1⟩) ?_
 rintro _ rfl
 simp only [Act.put,List.setIfInBounds_toArray,List.set_cons_zero,List.set_cons_succ]
 refine wpG_quiet 3 (by kernel_rfl) (by rfl) (by decide) ?_
 simp only [List.take_succ_cons,List.take_zero,List.drop_succ_cons,List.drop_zero]
 repeat (go_big_quiet_step (fail))
 refine wpQuiet_nil ?_
 refine wpG_call rfl rfl (fun w1 _ _ => ⟨56,#[.int .u64 (an.natAbs : Nat),.int .u64 (bd.natAbs : Nat)],by go_simp,HP1.out w1⟩) ?_
 rintro _ rfl
 simp only [Act.put,List.setIfInBounds_toArray,List.set_cons_zero,List.set_cons_succ]
 refine wpG_quiet 2 (by kernel_rfl) (by rfl) (by decide) ?_
 simp only [List.take_succ_cons,List.take_zero,List.drop_succ_cons,List.drop_zero]
 repeat (go_big_quiet_step (fail))
 refine wpQuiet_nil ?_
 refine wpG_call rfl rfl (fun w1 _ _ => ⟨55,#[.int .i64 bn],by go_simp,HSb.out w1⟩) ?_
 rintro _ rfl
 simp only [Act.put,List.setIfInBounds_toArray,List.set_cons_zero,List.set_cons_succ]
 refine wpG_quiet 3 (by kernel_rfl) (by rfl) (by decide) ?_
 simp only [List.take_succ_cons,List.take_zero,List.drop_succ_cons,List.drop_zero]
 repeat (go_big_quiet_step (fail))
 refine wpQuiet_nil ?_
 refine wpG_call rfl rfl (fun w1 _ _ => ⟨56,#[.int .u64 (bn.natAbs : Nat),.int .u64 (ad.natAbs : Nat)],by go_simp,HP2.out w1⟩) ?_
 rintro _ rfl
 simp only [Act.put,List.setIfInBounds_toArray,List.set_cons_zero,List.set_cons_succ]
 refine wpG_new rfl rfl (fun w1 hb1 _ => gWd_new hb1.size (by go_simp)) ?_
 rintro _ ⟨g6,rfl⟩
 simp only [Act.put,List.setIfInBounds_toArray,List.set_cons_zero,List.set_cons_succ]
 refine wpG_new rfl rfl (fun w1 hb1 _ => gWd_new hb1.size (by go_simp)) ?_
 rintro _ ⟨g7,rfl⟩
 simp only [Act.put,List.setIfInBounds_toArray,List.set_cons_zero,List.set_cons_succ]
 refine wpG_nil ?_
 intro w8 hb8 hF hA
 have h6 : AtWide w3.heap.size (.pointer (some ⟨g6,0,none⟩)) w8 := hF 6
 have h7 : AtWide w3.heap.size (.pointer (some ⟨g7,0,none⟩)) w8 := hF 7
 have h67 : g7 ≠ g6 := fun e => (hA 6 (by simp) g6 rfl).2 7 (by simp) (by decide) (by rw [e];rfl)
 have D08 := D0.out.below hb8 D0.out.lt
 have D18 := D1.out.below hb8 D1.out.lt
 have B8 := HB.out.trans (hb8.mono HB.out.size)
 obtain ⟨_,e6,l6,b6⟩ := h6
 obtain ⟨_,e7,l7,b7⟩ := h7
 injection e6 with e6
 injection e6 with e6
 injection e6 with e6 _ _
 injection e7 with e7
 injection e7 with e7
 injection e7 with e7 _ _
 subst e6 e7
 have hs3 := Hs.out
 obtain ⟨B9,p6,p7,p0,p1⟩ := wides_stored B8 (by omega) (by omega) h67 b6 b7 D08 D18 (.int .u64 ((an.natAbs * bd.natAbs / 18446744073709551616 : Nat) : Int)) (.int .u64 ((an.natAbs * bd.natAbs % 18446744073709551616 : Nat) : Int)) (.int .u64 ((bn.natAbs * ad.natAbs / 18446744073709551616 : Nat) : Int)) (.int .u64 ((bn.natAbs * ad.natAbs % 18446744073709551616 : Nat) : Int)) rfl
 have HN' : Hid (an < 0 → (an * bd < bn * ad ↔ bn.natAbs * ad.natAbs < an.natAbs * bd.natAbs) ∧ (bn * ad < an * bd ↔ an.natAbs * bd.natAbs < bn.natAbs * ad.natAbs)) := HN.out
 have f60 := b6.frozen 0
 have f61 := b6.frozen 1
 have b7x := (b7.far (p := ⟨g6,0,none⟩) h67 (.int .u64 ((an.natAbs * bd.natAbs / 18446744073709551616 : Nat) : Int))).far (p := ⟨g6,1,none⟩) h67 (.int .u64 ((an.natAbs * bd.natAbs % 18446744073709551616 : Nat) : Int))
 have b7y := b7x.set_ 0 (.int .u64 ((bn.natAbs * ad.natAbs / 18446744073709551616 : Nat) : Int))
 have f70 := b7x.frozen 0
 have f71 := b7y.frozen 1
 have b70 := b7x.cell 0
 have b71 := b7y.cell 1
 have q60 := p6.cell 0
 have q61 := p6.cell 1
 have q70 := p7.cell 0
 have q71 := p7.cell 1
 have q00 := p0.cell 0
 have q10 := p1.cell 0
 have b60 := b6.cell 0
 have b61 := b6.cell 1
 simp only [List.setIfInBounds_toArray,List.set_cons_zero] at b71
 simp only [List.getElem?_toArray,List.getElem?_cons_succ,List.getElem?_cons_zero] at q60 q61 q70 q71 q00 q10 b60 b61 b70 b71
 generalize an.natAbs * bd.natAbs = m at *
 generalize bn.natAbs * ad.natAbs = n at *
 have hL1 := fun W => raLess m n W
 have hL2 := fun W => raLess n m W
 unfold wideV at *
 generalize ((m / 18446744073709551616 : Nat) : Int) = mh at *
 generalize ((m % 18446744073709551616 : Nat) : Int) = ml at *
 generalize ((n / 18446744073709551616 : Nat) : Int) = nh at *
 generalize ((n % 18446744073709551616 : Nat) : Int) = nl at *
 have P6 := Lib.hid p6
 have P7 := Lib.hid p7
 have B9 := Lib.hid B9
 have H67 := Lib.hid h67
 have HL67 : Hid (w.heap.size < g6 ∧ w.heap.size < g7) := by unfold Hid;omega
 clear b7x b7y HN HSa HSb HP1 HP2 h67 hs3 Hs l6 l7 b6 b7 p6 p7 p0 p1 B8 D08 D18 hA hF hb8 HB D0 D1 u0 u1 u2 u3
 by_cases c0 : an < 0
 rotate_left
 ·have hcr := HG.out (by omega)
  have d0 : decide (an < 0) = false := decide_eq_false c0
  subst hcr
  clear c0 HG HN' HV
  go_wp2_with fail
  go_ret2
  exact ⟨rfl,B9.out⟩
 ·have d0 : decide (an < 0) = true := decide_eq_true c0
  have hN := HN'.out c0
  have HV2 : Hid (cr = if n < m then -1 else if m < n then 1 else 0) := by
   unfold Hid
   rw [HV.out]
   simp only [hN.1,hN.2]
  clear c0 HG HN' HV hN
  go_upto_region 9 with fail
  generalize (((w8.setCell ⟨g6,0,none⟩ (.int .u64 mh)).setCell ⟨g6,1,none⟩ (.int .u64 ml)).setCell ⟨g7,0,none⟩ (.int .u64 nh)).setCell ⟨g7,1,none⟩ (.int .u64 nl) = W9 at *
  clear f60 f61 f70 f71 b60 b61 b70 b71 q60 q61 q70 q71 q00 q10
  have q60 := P6.out.cell 0
  have q61 := P6.out.cell 1
  have q70 := P7.out.cell 0
  have q71 := P7.out.cell 1
  have f60 := P6.out.frozen 0
  have f61 := P6.out.frozen 1
  have f70 := P7.out.frozen 0
  have f71 := P7.out.frozen 1
  simp only [List.getElem?_toArray,List.getElem?_cons_succ,List.getElem?_cons_zero] at q60 q61 q70 q71
  have h67' := H67.out
  have S6 := Lib.hid ((((P6.out.set_ 0 (.int .u64 nh)).set_ 1 (.int .u64 nl)).far (p := ⟨g7,0,none⟩) (Ne.symm h67') (.int .u64 mh)).far (p := ⟨g7,1,none⟩) (Ne.symm h67') (.int .u64 ml))
  have S7 := Lib.hid ((((P7.out.far (p := ⟨g6,0,none⟩) h67' (.int .u64 nh)).far (p := ⟨g6,1,none⟩) h67' (.int .u64 nl)).set_ 0 (.int .u64 mh)).set_ 1 (.int .u64 ml))
  have C9 := Lib.hid ((((B9.out.setCell (p := ⟨g6,0,none⟩) (Nat.le_of_lt HL67.out.1) (.int .u64 nh)).setCell (p := ⟨g6,1,none⟩) (Nat.le_of_lt HL67.out.1) (.int .u64 nl)).setCell (p := ⟨g7,0,none⟩) (Nat.le_of_lt HL67.out.2) (.int .u64 mh)).setCell (p := ⟨g7,1,none⟩) (Nat.le_of_lt HL67.out.2) (.int .u64 ml))
  clear P6 P7 B9
  go_upto_region 10 with fail
  generalize (((W9.setCell ⟨g6,0,none⟩ (.int .u64 nh)).setCell ⟨g6,1,none⟩ (.int .u64 nl)).setCell ⟨g7,0,none⟩ (.int .u64 mh)).setCell ⟨g7,1,none⟩ (.int .u64 ml) = W10 at *
  clear q60 q61 q70 q71 f60 f61 f70 f71 h67'
  have q60 := S6.out.cell 0
  have q61 := S6.out.cell 1
  have q70 := S7.out.cell 0
  have q71 := S7.out.cell 1
  simp only [List.setIfInBounds_toArray,List.set_cons_zero,List.set_cons_succ,List.getElem?_toArray,List.getElem?_cons_succ,List.getElem?_cons_zero] at q60 q61 q70 q71
  by_cases c1 : n < m
  ·have e1 : decide (n < m) = true := decide_eq_true c1
   rw [e1] at hL2
   have hcr : cr = -1 := by rw [HV2.out,if_pos c1]
   subst hcr
   clear c1 e1 HV2 hL1
   go_wp2_with fail
   refine (hL2 _).mono ?_
   rintro e w5 ⟨rfl,hb5⟩
   have hb := C9.out.trans (hb5.mono C9.out.size)
   go_wp2_with fail
   go_ret2
   exact ⟨rfl,hb⟩
  ·have e1 : decide (n < m) = false := decide_eq_false c1
   rw [e1] at hL2
   go_wp2_with fail
   refine (hL2 _).mono ?_
   rintro e w5 ⟨rfl,hb5⟩
   have HB5 := Lib.hid (C9.out.trans (hb5.mono C9.out.size))
   have P65 := S6.out.below hb5 S6.out.lt
   have P75 := S7.out.below hb5 S7.out.lt
   clear q60 q61 q70 q71
   have q60 := P65.cell 0
   have q61 := P65.cell 1
   have q70 := P75.cell 0
   have q71 := P75.cell 1
   simp only [List.setIfInBounds_toArray,List.set_cons_zero,List.set_cons_succ,List.getElem?_toArray,List.getElem?_cons_succ,List.getElem?_cons_zero] at q60 q61 q70 q71
   clear P65 P75 hb5 S6 S7 C9 e1 hL2
   by_cases c2 : m < n
   ·have e2 : decide (m < n) = true := decide_eq_true c2
    rw [e2] at hL1
    have hcr : cr = 1 := by rw [HV2.out,if_neg c1,if_pos c2]
    subst hcr
    clear c1 c2 e2 HV2
    go_wp2_with fail
    refine (hL1 _).mono ?_
    rintro e w6 ⟨rfl,hb6⟩
    have hb := HB5.out.trans (hb6.mono HB5.out.size)
    go_wp2_with fail
    go_ret2
    exact ⟨rfl,hb⟩
   ·have e2 : decide (m < n) = false := decide_eq_false c2
    rw [e2] at hL1
    have hcr : cr = 0 := by rw [HV2.out,if_neg c1,if_neg c2]
    subst hcr
    clear c1 c2 e2 HV2
    go_wp2_with fail
    refine (hL1 _).mono ?_
    rintro e w6 ⟨rfl,hb6⟩
    have hb := HB5.out.trans (hb6.mono HB5.out.size)
    go_wp2_with fail
    go_ret2
    exact ⟨rfl,hb⟩
theorem raCmpA (a b : FrT) (w : World) (ha : frGood a = true) (hb : frGood b = true) :
  Calls Tryz.prog 31 #[a.val,b.val] w fun e w' => e = .returned (.tuple #[.int .i64 (cmpF a b),.int .i64 0]) ∧ Below w.heap.size w w' := by
 by_cases h : b.num < 0
 ·exact raCmpN a b w ha hb h
 ·exact raCmp a b w ha hb (by omega)
end Go.Proofs.YtknkhnahflmjiaaGreatDoor

namespace Go.Proofs.YtknkhnahflmjiaaGreatDoor
open Go.RowKit Go.Shelf
theorem cutW {G F : Nat → World → Prop} {R : Prop} (h2 : (∀ n w,F n w → G n w) → R) (h1 : ∀ n w,F n w → G n w) : R := h2 h1
def HeavPost (s : SetT) (w : World) (e : Ending) (w' : World) : Prop :=
 Below w.heap.size w w' ∧ ((linesErr s = 0 ∧ e = .returned (.tuple #[.int .i64 (heavTo (linesL s) (linesL s).length : Nat),(frAt (linesL s) (heavTo (linesL s) (linesL s).length)).val,.int .i64 0])) ∨ (linesErr s ≠ 0 ∧ e = .returned (.tuple #[.int .i64 0,.agg #[.int .i64 0,.int .i64 0],.int .i64 (linesErr s)])))
set_option maxRecDepth 100000 in
set_option maxHeartbeats 4000000 in
theorem lfHeaviest (v : Value) (s : SetT) (w : World) (hv : SetAt w w.heap.size v s) (hn : SetNames s) : Calls Tryz.prog 69 #[v] w (HeavPost s w) := by
 have HL := fun W (hb : Below w.heap.size w W) => batLinesT v s W (hv.grow hb) hn
 obtain ⟨Al,cl,Ai,ci,Ab,cb,rfl,-,-,-⟩ := hv
 unfold LinesPost at HL
 unfold HeavPost
 have HLn : Hid (linesErr s = 0 → setB s = true ∧ (∀ f ∈ linesL s,frGood f = true) ∧ (linesL s).length ≤ 12 ∧ 0 < (linesL s).length) := lines23
 generalize linesL s = l at *
 have HD := Lib.hid ((Blk.new w 37 #[.string s.name,.int .i64 s.depth,.int .i64 s.low,.int .i64 s.high,.int .i64 s.len,.slice Al s.lines.length cl,.int .i64 s.pipe,.int .i64 s.arbor,.int .i64 s.purch,.int .i64 s.most,.int .i64 s.brake,.slice Ai s.items.length ci,.slice Ab s.bricks.length cb]).alloc (.cells #[.int .i64 0,.int .i64 0] 23))
 have hE := Blk.new (w.alloc (.cells #[.string s.name,.int .i64 s.depth,.int .i64 s.low,.int .i64 s.high,.int .i64 s.len,.slice Al s.lines.length cl,.int .i64 s.pipe,.int .i64 s.arbor,.int .i64 s.purch,.int .i64 s.most,.int .i64 s.brake,.slice Ai s.items.length ci,.slice Ab s.bricks.length cb] 37)) 23 #[.int .i64 0,.int .i64 0]
 rw [World.size_alloc] at hE
 have HR := Lib.hid hE
 have HB := Lib.hid (((Below.refl _ w).alloc (Nat.le_refl _) (.cells #[.string s.name,.int .i64 s.depth,.int .i64 s.low,.int .i64 s.high,.int .i64 s.len,.slice Al s.lines.length cl,.int .i64 s.pipe,.int .i64 s.arbor,.int .i64 s.purch,.int .i64 s.most,.int .i64 s.brake,.slice Ai s.items.length ci,.slice Ab s.bricks.length cb] 37)).alloc (by simp) (.cells #[.int .i64 0,.int .i64 0] 23))
 have hll := HL _ HB.out
 clear HL hn hE
 unfold setVal at *
 go_enter Tryz.func69,Tryz.ntmps69
 go_upto_region 1 with fail
 generalize (w.alloc (.cells #[.string s.name,.int .i64 s.depth,.int .i64 s.low,.int .i64 s.high,.int .i64 s.len,.slice Al s.lines.length cl,.int .i64 s.pipe,.int .i64 s.arbor,.int .i64 s.purch,.int .i64 s.most,.int .i64 s.brake,.slice Ai s.items.length ci,.slice Ab s.bricks.length cb] 37)).alloc (.cells #[.int .i64 0,.int .i64 0] 23) = W1 at *
 have z0 := HD.out.cell 0;have z1 := HD.out.cell 1;have z2 := HD.out.cell 2;have z3 := HD.out.cell 3;have z4 := HD.out.cell 4;have z5 := HD.out.cell 5;have z6 := HD.out.cell 6;have z7 := HD.out.cell 7;have z8 := HD.out.cell 8;have z9 := HD.out.cell 9;have z10 := HD.out.cell 10;have z11 := HD.out.cell 11;have z12 := HD.out.cell 12
 simp only [List.getElem?_toArray,List.getElem?_cons_succ,List.getElem?_cons_zero] at z0 z1 z2 z3 z4 z5 z6 z7 z8 z9 z10 z11 z12
 go_upto_region 2 with (first | (go_at_call 66;refine hll.mono ?_;rintro e w2 ⟨hb2,⟨hE,v4,rfl,h4⟩ | ⟨hE,rfl⟩⟩))
 rotate_left
 ·have HB := Lib.hid (HB.out.trans (hb2.mono HB.out.size))
  have HR := Lib.hid (HR.out.below hb2 HR.out.lt)
  have hk2 : (linesErr s != 0) = true := bne_iff_ne.2 hE
  have HX := Lib.hid hE
  have r0 := HR.out.cell 0
  have g0 := HR.out.frozen 0
  have L3 := HR.out.set_ 0 (.int .i64 0)
  have r1 := L3.cell 1
  have g1 := L3.frozen 1
  have L4 := L3.set_ 1 (.int .i64 0)
  have q0 := L4.cell 0
  have q1 := L4.cell 1
  simp only [List.setIfInBounds_toArray,List.set_cons_zero,List.set_cons_succ,List.getElem?_toArray,List.getElem?_cons_succ,List.getElem?_cons_zero] at r0 r1 q0 q1
  have BZ := Lib.hid ((HB.out.setCell (p := ⟨w.heap.size + 1,0,none⟩) (Nat.le_succ _) (.int .i64 0)).setCell (p := ⟨w.heap.size + 1,1,none⟩) (Nat.le_succ _) (.int .i64 0))
  clear L3 L4
  clear hll hb2 hE HD HLn z0 z1 z2 z3 z4 z5 z6 z7 z8 z9 z10 z11 z12
  go_wp2_with fail
  refine bodyPost_ret (v := .tuple #[.int .i64 0,.agg #[.int .i64 0,.int .i64 0],.int .i64 (linesErr s)]) (by simp [results,Tryz.results69,go_sem,q0,q1]) rfl ?_
  exact ⟨BZ.out,.inr ⟨HX.out,rfl⟩⟩
 obtain ⟨-,hlg,hl12,hl0⟩ := HLn.out hE
 have HB := Lib.hid (HB.out.trans (hb2.mono HB.out.size))
 have HR := Lib.hid (HR.out.below hb2 HR.out.lt)
 have HE := Lib.hid hE
 have HLG := Lib.hid hlg
 obtain ⟨A,c,rfl,-,hc2,hcl⟩ := h4.open_
 unfold maxLen at hc2
 obtain ⟨b1,o1,rfl,hb1,hx⟩ := hcl 0 hl0
 have HX := Lib.hid hx
 have HH : Hid (∀ k,k ≤ l.length → heavTo l k < l.length) := fun k hk => heavTo_lt hl0 k hk
 clear hll hb2 hE HD HLn z0 z1 z2 z3 z4 z5 z6 z7 z8 z9 z10 z11 z12 h4 hcl hx hlg
 have HT0 : Hid (Below w2.heap.size w2 w2) := Below.refl _ _
 go_upto_region 6 with fail
 go_loopw [23,7] (fun ix u wr => ∃ k : Nat,k ≤ l.length ∧ ix = .int .i64 k ∧ u = .int .i64 (heavTo l k : Nat) ∧ Hid (Below w2.heap.size w2 wr)) (fun ix _ _ => l.length - (intOf ix).toNat)
 case atStart => exact ⟨0,Nat.zero_le _,rfl,rfl,HT0⟩
 case round =>
  clear HT0
  obtain ⟨k,hk,rfl,rfl,HT⟩ := hrel
  have k0 : (0 : Int) ≤ (k : Int) := Int.natCast_nonneg _
  obtain ⟨b,hbe⟩ : ∃ b,heavTo l k = b := ⟨_,rfl⟩
  have hbl := HH.out k hk
  have HBe := Lib.hid hbe
  rw [hbe] at hbl ⊢
  clear hbe
  have b0 : (0 : Int) ≤ (b : Int) := Int.natCast_nonneg _
  have b1' : (b : Int) < (l.length : Int) := by omega
  have yb0 := (HT.out.cell (p := ⟨b1,o1 + b * 2,none⟩) hb1).trans (HX.out b hbl).1
  have yb1 := (HT.out.cell (p := ⟨b1,o1 + b * 2 + 1,none⟩) hb1).trans (HX.out b hbl).2
  by_cases hkl : k < l.length
  ·have k1 : (k : Int) < (l.length : Int) := by omega
   have y0 := (HT.out.cell (p := ⟨b1,o1 + k * 2,none⟩) hb1).trans (HX.out k hkl).1
   have y1 := (HT.out.cell (p := ⟨b1,o1 + k * 2 + 1,none⟩) hb1).trans (HX.out k hkl).2
   have HCm := Lib.hid fun W => raCmpA l[k] l[b] W (HLG.out _ (List.getElem_mem hkl)) (HLG.out _ (List.getElem_mem hbl))
   have HS : Hid (heavTo l (k + 1) = if cmpF l[k] l[b] = 1 then k else b) := by
    unfold Hid
    rw [heavTo,HBe.out,frAt_eq hkl,frAt_eq hbl]
   have hc2' := @cmp_two l[k] l[b]
   have ek : l[k].val = .agg #[.int .i64 l[k].num,.int .i64 l[k].den] := rfl
   have eb : l[b].val = .agg #[.int .i64 l[b].num,.int .i64 l[b].den] := rfl
   rw [ek,eb] at HCm
   clear ek eb
   generalize cmpF l[k] l[b] = cc at *
   generalize l[k].num = kn at *
   generalize l[k].den = kd at *
   generalize l[b].num = bn at *
   generalize l[b].den = bd at *
   have hbA := (Below.refl wr.heap.size wr).alloc (Nat.le_refl _) (.cells #[.int .i64 kn,.int .i64 kd] 23)
   have HK := Lib.hid (Blk.new wr 23 #[.int .i64 kn,.int .i64 kd])
   have HT4 := Lib.hid (HT.out.trans (hbA.mono HT.out.size))
   have hlw := Nat.lt_of_lt_of_le hb1 HT.out.size
   have za0 := (hbA.cell (p := ⟨b1,o1 + b * 2,none⟩) hlw).trans yb0
   have za1 := (hbA.cell (p := ⟨b1,o1 + b * 2 + 1,none⟩) hlw).trans yb1
   go_upto_region 8 with fail
   generalize wr.alloc (.cells #[.int .i64 kn,.int .i64 kd] 23) = W4 at *
   have x0 := HK.out.cell 0
   have x1 := HK.out.cell 1
   simp only [List.getElem?_toArray,List.getElem?_cons_succ,List.getElem?_cons_zero] at x0 x1
   have u0 := HeldB.cell x0
   have u1 := HeldB.cell x1
   have u2 := HeldB.cell za0
   have u3 := HeldB.cell za1
   have cC := HeldB.call (W := W4) fun w' _ => HCm.out w'
   clear x0 x1 za0 za1 yb0 yb1 y0 y1 hbA
   refine wp_region_heldb (by kernel_rfl) (by kernel_rfl) ?_
   repeat (go_big_quiet_step (first | (go_at_call 31;with_reducible exact cC _)))
   refine wpQuiet_nil ?_
   rintro w5 ⟨⟨w5',hb5⟩,rfl⟩
   have HT5 := Lib.hid (HT4.out.trans (hb5.mono HT4.out.size))
   clear u0 u1 u2 u3 cC hb5 HT4 HT HK
   by_cases hcc : cc = 1
   ·have d1 : decide ((0 : Int) < cc) = true := decide_eq_true (by omega)
    have HS2 : Hid (heavTo l (k + 1) = k) := by unfold Hid;rw [HS.out,if_pos hcc]
    clear hcc hc2' HS
    go_wp2_with fail
    go_roundw
    case rel => exact ⟨k + 1,by omega,by go_num,by rw [HS2.out],HT5⟩
    case measure => simp [intOf];omega
   ·have d1 : decide ((0 : Int) < cc) = false := decide_eq_false (by omega)
    have HS2 : Hid (heavTo l (k + 1) = b) := by unfold Hid;rw [HS.out,if_neg hcc]
    clear hcc hc2' HS
    go_wp2_with fail
    go_roundw
    case rel => exact ⟨k + 1,by omega,by go_num,by rw [HS2.out],HT5⟩
    case measure => simp [intOf];omega
  ·obtain rfl : k = l.length := by omega
   have hfa : (frAt l b).val = .agg #[.int .i64 l[b].num,.int .i64 l[b].den] := by rw [frAt_eq hbl]
   have HFA := Lib.hid hfa
   generalize l[b].num = bx at *
   generalize l[b].den = by_ at *
   have HB := Lib.hid (HB.out.trans (HT.out.mono HB.out.size))
   have HR := Lib.hid (HR.out.below HT.out HR.out.lt)
   clear hfa
   go_upto_region 14 with fail
   have HB := Lib.hid HB.out.drew
   have HR : Hid (Blk wr.drew (w.heap.size + 1) 23 #[.int .i64 0,.int .i64 0]) := HR.out.drewN 1
   have yb0 : wr.drew.cell? ⟨b1,o1 + b * 2,none⟩ = _ := yb0
   have yb1 : wr.drew.cell? ⟨b1,o1 + b * 2 + 1,none⟩ = _ := yb1
   have r0 := HR.out.cell 0
   have g0 := HR.out.frozen 0
   have L3 := HR.out.set_ 0 (.int .i64 bx)
   have r1 := L3.cell 1
   have g1 := L3.frozen 1
   have L4 := L3.set_ 1 (.int .i64 by_)
   have q0 := L4.cell 0
   have q1 := L4.cell 1
   simp only [List.setIfInBounds_toArray,List.set_cons_zero,List.set_cons_succ,List.getElem?_toArray,List.getElem?_cons_succ,List.getElem?_cons_zero] at r0 r1 q0 q1
   have BZ := Lib.hid ((HB.out.setCell (p := ⟨w.heap.size + 1,0,none⟩) (Nat.le_succ _) (.int .i64 bx)).setCell (p := ⟨w.heap.size + 1,1,none⟩) (Nat.le_succ _) (.int .i64 by_))
   clear L3 L4
   refine wp_region_po (fun i => ([.int .i64 (b : Int),.slice (some ⟨b1,o1,none⟩) l.length c,.int .i64 (b : Int),.pointer (some ⟨b1,o1 + b * 2,none⟩),.agg #[.int .i64 bx,.int .i64 by_],.int .i64 (b : Int),undef,.int .i64 0] : List Value).getD i undef) [6] (by kernel_rfl) (by kernel_rfl) (by kernel_rfl) (by decide) ?_
   generalize wr.drew = W9 at *
   refine poJ_step (L := [6]) rfl (by decide) ?_ ?_
   ·simp only [putAll,Act.put,List.setIfInBounds_toArray,List.set_cons_zero,List.set_cons_succ,readsQ]
    refine ⟨?_,?_,?_,?_,?_,?_,?_,?_,trivial⟩
    all_goals first
     | exact .inl rfl
     | exact .inr (.inl (by decide +kernel))
     | (refine .inr (.inr ?_);go_simp;done)
   intro i o hi hr ho
   simp only [List.mem_cons,List.not_mem_nil,or_false] at hi
   subst hi
   obtain rfl := Option.some.inj ho
   clear hr ho
   refine .inl ⟨rfl,((W9.setCell ⟨w.heap.size + 1,0,none⟩ (.int .i64 bx)).setCell ⟨w.heap.size + 1,1,none⟩ (.int .i64 by_)),fun i => ([.int .i64 (b : Int),.slice (some ⟨b1,o1,none⟩) l.length c,.int .i64 (b : Int),.pointer (some ⟨b1,o1 + b * 2,none⟩),.agg #[.int .i64 bx,.int .i64 by_],.int .i64 (b : Int),undef,.int .i64 0] : List Value).getD i undef,by simp only [putAll,Act.put,List.setIfInBounds_toArray,List.set_cons_zero,List.set_cons_succ,];go_simp,agreeL_all (by refine ⟨?_,?_,?_,?_,?_,?_,?_,?_,trivial⟩ <;> first | exact .inl rfl | exact .inr (.inr rfl) | exact .inr (.inl (by decide +kernel))),?_⟩
   refine poJ_end rfl ?_ ?_
   ·simp only [putAll,Act.put,List.setIfInBounds_toArray,List.set_cons_zero,List.set_cons_succ,readsQ]
    refine ⟨?_,?_,?_,?_,?_,?_,?_,?_,trivial⟩
    all_goals first
     | exact .inl rfl
     | exact .inr (.inl (by decide +kernel))
     | (refine .inr (.inr ?_);go_simp;done)
   simp only [putAll,Act.put,List.setIfInBounds_toArray,List.set_cons_zero,List.set_cons_succ,]
   go_wp2_with fail
   refine bodyPost_ret (v := .tuple #[.int .i64 (b : Int),.agg #[.int .i64 bx,.int .i64 by_],.int .i64 0]) (by simp [results,Tryz.results69,go_sem,q0,q1]) rfl ?_
   exact ⟨BZ.out,.inl ⟨HE.out,by rw [HBe.out,HFA.out]⟩⟩
def weakV (s : SetT) : Value := if linesErr s = 0 then (if (frAt (linesL s) (heavTo (linesL s) (linesL s).length)).num ≤ 0 then .tuple #[.int .i64 0,.agg #[.int .i64 0,.int .i64 0],.int .i64 12] else if fracOk (qOf ⟨s.most,1⟩ / qOf (frAt (linesL s) (heavTo (linesL s) (linesL s).length))) = true then .tuple #[.int .i64 (heavTo (linesL s) (linesL s).length : Nat),(frOf (qOf ⟨s.most,1⟩ / qOf (frAt (linesL s) (heavTo (linesL s) (linesL s).length)))).val,.int .i64 0] else .tuple #[.int .i64 0,.agg #[.int .i64 0,.int .i64 0],.int .i64 5]) else .tuple #[.int .i64 0,.agg #[.int .i64 0,.int .i64 0],.int .i64 (linesErr s)]
theorem frac_okW {q : Rat} {fx fy fz : Int} (h : fracV q = .tuple #[.agg #[.int .i64 fx,.int .i64 fy],.int .i64 fz]) : (fracOk q = true → frGood ⟨fx,fy⟩ = true ∧ frOf q = ⟨fx,fy⟩ ∧ fz = 0) ∧ (fracOk q = false → fz = 5) := by
 refine ⟨fun hk => ?_,fun hk => ?_⟩
 ·have h2 := fracV_ok hk
  rw [h] at h2
  injection h2 with h2
  injection h2 with h2
  injection h2 with h3 h4
  injection h3 with h3
  injection h3 with h3
  injection h3 with h5 h6
  injection h5 with _ h5
  injection h6 with h6 _
  injection h6 with _ h6
  injection h4 with h4 _
  injection h4 with _ h4
  have e : frOf q = ⟨fx,fy⟩ := by unfold frOf;rw [h5,h6]
  exact ⟨by rw [← e];exact good_q hk,e,h4⟩
 ·have h2 := fracV_no hk
  rw [h] at h2
  injection h2 with h2
  injection h2 with h2
  injection h2 with h3 h4
  injection h4 with h4 _
  injection h4 with _ h4
set_option maxRecDepth 100000 in
set_option maxHeartbeats 4000000 in
theorem lmWeakest (v : Value) (s : SetT) (w : World) (hv : SetAt w w.heap.size v s) (hn : SetNames s) : Calls Tryz.prog 23 #[v] w fun e w' => e = .returned (weakV s) ∧ Below w.heap.size w w' := by
 have HL := fun W (hb : Below w.heap.size w W) => lfHeaviest v s W (hv.grow hb) hn
 obtain ⟨Al,cl,Ai,ci,Ab,cb,rfl,-,-,-⟩ := hv
 unfold HeavPost at HL
 have HLn : Hid (linesErr s = 0 → setB s = true ∧ (∀ f ∈ linesL s,frGood f = true) ∧ (linesL s).length ≤ 12 ∧ 0 < (linesL s).length) := lines23
 have HV : Hid (weakV s = if linesErr s = 0 then (if (frAt (linesL s) (heavTo (linesL s) (linesL s).length)).num ≤ 0 then .tuple #[.int .i64 0,.agg #[.int .i64 0,.int .i64 0],.int .i64 12] else if fracOk (qOf ⟨s.most,1⟩ / qOf (frAt (linesL s) (heavTo (linesL s) (linesL s).length))) = true then .tuple #[.int .i64 (heavTo (linesL s) (linesL s).length : Nat),(frOf (qOf ⟨s.most,1⟩ / qOf (frAt (linesL s) (heavTo (linesL s) (linesL s).length)))).val,.int .i64 0] else .tuple #[.int .i64 0,.agg #[.int .i64 0,.int .i64 0],.int .i64 5]) else .tuple #[.int .i64 0,.agg #[.int .i64 0,.int .i64 0],.int .i64 (linesErr s)]) := rfl
 have HFr : Hid (linesErr s = 0 → frAt (linesL s) (heavTo (linesL s) (linesL s).length) ∈ linesL s) := fun h => by
  obtain ⟨-,h1,-,h2⟩ := HLn.out h
  exact (heav_mem h1 h2).1
 generalize weakV s = wv at *
 generalize heavTo (linesL s) (linesL s).length = h at *
 generalize frAt (linesL s) h = lo at *
 have HD := Lib.hid ((Blk.new w 37 #[.string s.name,.int .i64 s.depth,.int .i64 s.low,.int .i64 s.high,.int .i64 s.len,.slice Al s.lines.length cl,.int .i64 s.pipe,.int .i64 s.arbor,.int .i64 s.purch,.int .i64 s.most,.int .i64 s.brake,.slice Ai s.items.length ci,.slice Ab s.bricks.length cb]).alloc (.cells #[.int .i64 0,.int .i64 0] 23))
 have hE := Blk.new (w.alloc (.cells #[.string s.name,.int .i64 s.depth,.int .i64 s.low,.int .i64 s.high,.int .i64 s.len,.slice Al s.lines.length cl,.int .i64 s.pipe,.int .i64 s.arbor,.int .i64 s.purch,.int .i64 s.most,.int .i64 s.brake,.slice Ai s.items.length ci,.slice Ab s.bricks.length cb] 37)) 23 #[.int .i64 0,.int .i64 0]
 rw [World.size_alloc] at hE
 have HR := Lib.hid hE
 have HB := Lib.hid (((Below.refl _ w).alloc (Nat.le_refl _) (.cells #[.string s.name,.int .i64 s.depth,.int .i64 s.low,.int .i64 s.high,.int .i64 s.len,.slice Al s.lines.length cl,.int .i64 s.pipe,.int .i64 s.arbor,.int .i64 s.purch,.int .i64 s.most,.int .i64 s.brake,.slice Ai s.items.length ci,.slice Ab s.bricks.length cb] 37)).alloc (by simp) (.cells #[.int .i64 0,.int .i64 0] 23))
 have hll := HL _ HB.out
 clear HL hn hE
 unfold setVal at *
 go_enter Tryz.func23,Tryz.ntmps23
 go_upto_region 1 with fail
 generalize (w.alloc (.cells #[.string s.name,.int .i64 s.depth,.int .i64 s.low,.int .i64 s.high,.int .i64 s.len,.slice Al s.lines.length cl,.int .i64 s.pipe,.int .i64 s.arbor,.int .i64 s.purch,.int .i64 s.most,.int .i64 s.brake,.slice Ai s.items.length ci,.slice Ab s.bricks.length cb] 37)).alloc (.cells #[.int .i64 0,.int .i64 0] 23) = W1 at *
 have z0 := HD.out.cell 0;have z1 := HD.out.cell 1;have z2 := HD.out.cell 2;have z3 := HD.out.cell 3;have z4 := HD.out.cell 4;have z5 := HD.out.cell 5;have z6 := HD.out.cell 6;have z7 := HD.out.cell 7;have z8 := HD.out.cell 8;have z9 := HD.out.cell 9;have z10 := HD.out.cell 10;have z11 := HD.out.cell 11;have z12 := HD.out.cell 12
 simp only [List.getElem?_toArray,List.getElem?_cons_succ,List.getElem?_cons_zero] at z0 z1 z2 z3 z4 z5 z6 z7 z8 z9 z10 z11 z12
 obtain ⟨ln,hln⟩ : ∃ ln,lo.num = ln := ⟨_,rfl⟩
 obtain ⟨ld,hld⟩ : ∃ ld,lo.den = ld := ⟨_,rfl⟩
 have hlv : lo.val = .agg #[.int .i64 ln,.int .i64 ld] := by rw [← hln,← hld]
 rw [hlv] at hll
 go_upto_region 2 with (first | (go_at_call 69;refine hll.mono ?_;rintro e w2 ⟨hb2,⟨hE,rfl⟩ | ⟨hE,rfl⟩⟩))
 rotate_left
 ·have hb3 := hb2.alloc hb2.size (.cells #[.int .i64 0,.int .i64 0] 23)
  have HB := Lib.hid (HB.out.trans (hb3.mono HB.out.size))
  have HR := Lib.hid (HR.out.below hb3 HR.out.lt)
  have hk2 : (linesErr s != 0) = true := bne_iff_ne.2 hE
  have HV2 : Hid (wv = .tuple #[.int .i64 0,.agg #[.int .i64 0,.int .i64 0],.int .i64 (linesErr s)]) := by unfold Hid;rw [HV.out,if_neg hE]
  generalize linesErr s = k at *
  have r0 := HR.out.cell 0
  have g0 := HR.out.frozen 0
  have L3 := HR.out.set_ 0 (.int .i64 0)
  have r1 := L3.cell 1
  have g1 := L3.frozen 1
  have L4 := L3.set_ 1 (.int .i64 0)
  have q0 := L4.cell 0
  have q1 := L4.cell 1
  simp only [List.setIfInBounds_toArray,List.set_cons_zero,List.set_cons_succ,List.getElem?_toArray,List.getElem?_cons_succ,List.getElem?_cons_zero] at r0 r1 q0 q1
  have BZ := Lib.hid ((HB.out.setCell (p := ⟨w.heap.size + 1,0,none⟩) (Nat.le_succ _) (.int .i64 0)).setCell (p := ⟨w.heap.size + 1,1,none⟩) (Nat.le_succ _) (.int .i64 0))
  clear L3 L4
  clear hll hb2 hb3 hE HD HLn HFr HV z0 z1 z2 z3 z4 z5 z6 z7 z8 z9 z10 z11 z12
  go_wp2_with fail
  refine bodyPost_ret (v := .tuple #[.int .i64 0,.agg #[.int .i64 0,.int .i64 0],.int .i64 k]) (by simp [results,Tryz.results23,go_sem,q0,q1]) rfl ?_
  exact ⟨by rw [HV2.out],BZ.out⟩
 obtain ⟨hset,hlg,hl12,hl0⟩ := HLn.out hE
 have hmost := (setB_ok hset).most
 have hgo := hlg _ (HFr.out hE)
 have HV2 : Hid (wv = if ln ≤ 0 then .tuple #[.int .i64 0,.agg #[.int .i64 0,.int .i64 0],.int .i64 12] else if fracOk (qOf ⟨s.most,1⟩ / qOf lo) = true then .tuple #[.int .i64 (h : Nat),(frOf (qOf ⟨s.most,1⟩ / qOf lo)).val,.int .i64 0] else .tuple #[.int .i64 0,.agg #[.int .i64 0,.int .i64 0],.int .i64 5]) := by unfold Hid;rw [HV.out,if_pos hE,hln]
 have hb3 := hb2.alloc hb2.size (.cells #[.int .i64 ln,.int .i64 ld] 23)
 have HB := Lib.hid (HB.out.trans (hb3.mono HB.out.size))
 have HR := Lib.hid (HR.out.below hb3 HR.out.lt)
 have HD2 := Lib.hid (HD.out.below hb3 HD.out.lt)
 have H6 := Lib.hid (Blk.new w2 23 #[.int .i64 ln,.int .i64 ld])
 clear hll hb2 hb3 hE HD HLn HFr HV z0 z1 z2 z3 z4 z5 z6 z7 z8 z9 z10 z11 z12 hset hlg hl12 hl0
 generalize w2.alloc (.cells #[.int .i64 ln,.int .i64 ld] 23) = w7 at *
 generalize w2.heap.size = n6 at *
 have x0 := H6.out.cell 0
 simp only [List.getElem?_toArray,List.getElem?_cons_zero] at x0
 by_cases hneg : ln ≤ 0
 ·have d1 : decide (ln ≤ 0) = true := decide_eq_true hneg
  have HV3 : Hid (wv = .tuple #[.int .i64 0,.agg #[.int .i64 0,.int .i64 0],.int .i64 12]) := by unfold Hid;rw [HV2.out,if_pos hneg]
  have r0 := HR.out.cell 0
  have g0 := HR.out.frozen 0
  have L3 := HR.out.set_ 0 (.int .i64 0)
  have r1 := L3.cell 1
  have g1 := L3.frozen 1
  have L4 := L3.set_ 1 (.int .i64 0)
  have q0 := L4.cell 0
  have q1 := L4.cell 1
  simp only [List.setIfInBounds_toArray,List.set_cons_zero,List.set_cons_succ,List.getElem?_toArray,List.getElem?_cons_succ,List.getElem?_cons_zero] at r0 r1 q0 q1
  have BZ := Lib.hid ((HB.out.setCell (p := ⟨w.heap.size + 1,0,none⟩) (Nat.le_succ _) (.int .i64 0)).setCell (p := ⟨w.heap.size + 1,1,none⟩) (Nat.le_succ _) (.int .i64 0))
  clear L3 L4
  clear HV2 hneg hln hld hlv hmost hgo HD2 H6
  go_wp2_with fail
  refine bodyPost_ret (v := .tuple #[.int .i64 0,.agg #[.int .i64 0,.int .i64 0],.int .i64 12]) (by simp [results,Tryz.results23,go_sem,q0,q1]) rfl ?_
  exact ⟨by rw [HV3.out],BZ.out⟩
 have d1 : decide (ln ≤ 0) = false := decide_eq_false hneg
 have hdv := fun W => raDiv ⟨s.most,1⟩ lo W (good_one (by omega) (by omega)) hgo (by omega)
 obtain ⟨fx,fy,fz,hfv2⟩ := fracV_form (qOf ⟨s.most,1⟩ / qOf lo)
 rw [hfv2,hlv] at hdv
 have HFV := Lib.hid (frac_okW hfv2)
 have HDv := Lib.hid hdv
 have HO := Lib.hid fun W => lmOf s.most W
 have HV3 : Hid (wv = if fracOk (qOf ⟨s.most,1⟩ / qOf lo) = true then .tuple #[.int .i64 (h : Nat),(frOf (qOf ⟨s.most,1⟩ / qOf lo)).val,.int .i64 0] else .tuple #[.int .i64 0,.agg #[.int .i64 0,.int .i64 0],.int .i64 5]) := by unfold Hid;rw [HV2.out,if_neg hneg]
 have HDl : Hid (w.heap.size < w7.heap.size) := HD2.out.lt
 have HEl : Hid (n6 < w7.heap.size) := H6.out.lt
 have HD9 := Lib.hid (HD2.out.cell 9)
 have HE0 := Lib.hid (H6.out.cell 0)
 have HE1 := Lib.hid (H6.out.cell 1)
 simp only [List.getElem?_toArray,List.getElem?_cons_succ,List.getElem?_cons_zero] at HD9 HE0 HE1
 generalize fracOk (qOf ⟨s.most,1⟩ / qOf lo) = ok at *
 generalize frOf (qOf ⟨s.most,1⟩ / qOf lo) = fo at *
 clear hdv hfv2 HV2 hneg hln hld hlv hmost hgo HD2 H6
 go_upto_region 6 with fail
 clear x0
 apply cutW (F := fun n9 w9 => Below w7.heap.size w7 w9 ∧ w7.heap.size ≤ n9 ∧ Blk w9 n9 23 #[.int .i64 fx,.int .i64 fy])
 ·intro key
  have HQ := Lib.hid ((Below.refl w7.heap.size w7).drew)
  refine wp_region_po (fun i => ([.pointer (some ⟨w.heap.size,9,none⟩),.int .i64 s.most,undef,.agg #[.int .i64 ln,.int .i64 ld],undef,undef,undef,undef,undef,undef,undef] : List Value).getD i undef) [2,4,8,9] (by kernel_rfl) (by kernel_rfl) (by kernel_rfl) (by decide) ?_
  generalize w7.drew = W3 at *
  have b9 := (HQ.out.cell (p := ⟨w.heap.size,9,none⟩) HDl.out).trans HD9.out
  have b0 := (HQ.out.cell (p := ⟨n6,0,none⟩) HEl.out).trans HE0.out
  have b1 := (HQ.out.cell (p := ⟨n6,1,none⟩) HEl.out).trans HE1.out
  refine poJ_step (L := [2,4,8,9]) rfl (by decide) ?_ ?_
  ·simp only [putAll,Act.put,List.setIfInBounds_toArray,List.set_cons_zero,List.set_cons_succ,readsQ]
   refine ⟨?_,?_,?_,?_,?_,?_,?_,?_,?_,?_,?_,trivial⟩
   all_goals first
    | exact .inl rfl
    | exact .inr (.inl (by decide +kernel))
    | (refine .inr (.inr ?_);go_simp;done)
  intro i o hi hr ho
  simp only [List.mem_cons,List.not_mem_nil,or_false] at hi
  rcases hi with rfl | rfl | rfl | rfl
  ·obtain rfl := Option.some.inj ho
   clear hr ho
   refine .inr (.inr ⟨51,#[.int .i64 s.most],by simp only [putAll,Act.put,List.setIfInBounds_toArray,List.set_cons_zero,List.set_cons_succ,];go_simp,?_⟩)
   refine (HO.out _).mono ?_
   rintro e w3 ⟨rfl,hb_w3⟩
   refine ⟨_,fun i => ([.pointer (some ⟨w.heap.size,9,none⟩),.int .i64 s.most,.agg #[.int .i64 s.most,.int .i64 1],.agg #[.int .i64 ln,.int .i64 ld],undef,undef,undef,undef,undef,undef,undef] : List Value).getD i undef,rfl,agreeL_all (by refine ⟨?_,?_,?_,?_,?_,?_,?_,?_,?_,?_,?_,trivial⟩ <;> first | exact .inl rfl | exact .inr (.inr rfl) | exact .inr (.inl (by decide +kernel))),rfl,?_⟩
   have HQ := Lib.hid (HQ.out.trans (hb_w3.mono HQ.out.size))
   have b9 := (HQ.out.cell (p := ⟨w.heap.size,9,none⟩) HDl.out).trans HD9.out
   have b0 := (HQ.out.cell (p := ⟨n6,0,none⟩) HEl.out).trans HE0.out
   have b1 := (HQ.out.cell (p := ⟨n6,1,none⟩) HEl.out).trans HE1.out
   refine poJ_step (L := [4,8,9]) rfl (by decide) ?_ ?_
   ·simp only [putAll,Act.put,List.setIfInBounds_toArray,List.set_cons_zero,List.set_cons_succ,readsQ]
    refine ⟨?_,?_,?_,?_,?_,?_,?_,?_,?_,?_,?_,trivial⟩
    all_goals first
     | exact .inl rfl
     | exact .inr (.inl (by decide +kernel))
     | (refine .inr (.inr ?_);go_simp;done)
   intro i o hi hr ho
   simp only [List.mem_cons,List.not_mem_nil,or_false] at hi
   rcases hi with rfl | rfl | rfl
   ·obtain rfl := Option.some.inj ho
    clear hr ho
    refine .inr (.inr ⟨50,#[.agg #[.int .i64 s.most,.int .i64 1],.agg #[.int .i64 ln,.int .i64 ld]],by simp only [putAll,Act.put,List.setIfInBounds_toArray,List.set_cons_zero,List.set_cons_succ,];go_simp,?_⟩)
    refine (HDv.out _).mono ?_
    rintro e w4 ⟨rfl,hb_w4⟩
    refine ⟨_,fun i => ([.pointer (some ⟨w.heap.size,9,none⟩),.int .i64 s.most,.agg #[.int .i64 s.most,.int .i64 1],.agg #[.int .i64 ln,.int .i64 ld],.tuple #[.agg #[.int .i64 fx,.int .i64 fy],.int .i64 fz],.tuple #[.agg #[.int .i64 fx,.int .i64 fy],.int .i64 fz],.agg #[.int .i64 fx,.int .i64 fy],.int .i64 fz,undef,undef,.int .i64 fz] : List Value).getD i undef,rfl,agreeL_all (by refine ⟨?_,?_,?_,?_,?_,?_,?_,?_,?_,?_,?_,trivial⟩ <;> first | exact .inl rfl | exact .inr (.inr rfl) | exact .inr (.inl (by decide +kernel))),rfl,?_⟩
    have HQ := Lib.hid (HQ.out.trans (hb_w4.mono HQ.out.size))
    have b9 := (HQ.out.cell (p := ⟨w.heap.size,9,none⟩) HDl.out).trans HD9.out
    have b0 := (HQ.out.cell (p := ⟨n6,0,none⟩) HEl.out).trans HE0.out
    have b1 := (HQ.out.cell (p := ⟨n6,1,none⟩) HEl.out).trans HE1.out
    refine poJ_step (L := [8,9]) rfl (by decide) ?_ ?_
    ·simp only [putAll,Act.put,List.setIfInBounds_toArray,List.set_cons_zero,List.set_cons_succ,readsQ]
     refine ⟨?_,?_,?_,?_,?_,?_,?_,?_,?_,?_,?_,trivial⟩
     all_goals first
      | exact .inl rfl
      | exact .inr (.inl (by decide +kernel))
      | (refine .inr (.inr ?_);go_simp;done)
    intro i o hi hr ho
    simp only [List.mem_cons,List.not_mem_nil,or_false] at hi
    rcases hi with rfl | rfl
    ·obtain rfl := Option.some.inj ho
     clear hr ho
     have HQ0 := HQ
     have hqs := HQ.out.size
     have hqa := HQ.out.alloc hqs (.cells #[.int .i64 0,.int .i64 0] 23)
     refine .inr (.inl ⟨_,(w4.alloc (.cells #[.int .i64 0,.int .i64 0] 23)),fun i => ([.pointer (some ⟨w.heap.size,9,none⟩),.int .i64 s.most,.agg #[.int .i64 s.most,.int .i64 1],.agg #[.int .i64 ln,.int .i64 ld],.tuple #[.agg #[.int .i64 fx,.int .i64 fy],.int .i64 fz],.tuple #[.agg #[.int .i64 fx,.int .i64 fy],.int .i64 fz],.agg #[.int .i64 fx,.int .i64 fy],.int .i64 fz,.pointer (some ⟨w4.heap.size,0,none⟩),undef,.int .i64 fz] : List Value).getD i undef,by simp only [putAll,Act.put,List.setIfInBounds_toArray,List.set_cons_zero,List.set_cons_succ,];go_simp,agreeL_all (by refine ⟨?_,?_,?_,?_,?_,?_,?_,?_,?_,?_,?_,trivial⟩ <;> first | exact .inl rfl | exact .inr (.inr rfl) | exact .inr (.inl (by decide +kernel))),rfl,?_⟩)
     have HQ := Lib.hid hqa
     have b9 := (HQ.out.cell (p := ⟨w.heap.size,9,none⟩) HDl.out).trans HD9.out
     have b0 := (HQ.out.cell (p := ⟨n6,0,none⟩) HEl.out).trans HE0.out
     have b1 := (HQ.out.cell (p := ⟨n6,1,none⟩) HEl.out).trans HE1.out
     refine poJ_step (L := [9]) rfl (by decide) ?_ ?_
     ·simp only [putAll,Act.put,List.setIfInBounds_toArray,List.set_cons_zero,List.set_cons_succ,readsQ]
      refine ⟨?_,?_,?_,?_,?_,?_,?_,?_,?_,?_,?_,trivial⟩
      all_goals first
       | exact .inl rfl
       | exact .inr (.inl (by decide +kernel))
       | (refine .inr (.inr ?_);go_simp;done)
     intro i o hi hr ho
     simp only [List.mem_cons,List.not_mem_nil,or_false] at hi
     subst hi
     obtain rfl := Option.some.inj ho
     clear hr ho
     have HN2 := Lib.hid (Blk.new w4 23 #[.int .i64 0,.int .i64 0])
     have r0 := HN2.out.cell 0
     have f0 := HN2.out.frozen 0
     have r1 := (HN2.out.set_ 0 (.int .i64 fx)).cell 1
     have f1 := (HN2.out.set_ 0 (.int .i64 fx)).frozen 1
     simp only [List.setIfInBounds_toArray,List.set_cons_zero,List.getElem?_toArray,List.getElem?_cons_succ,List.getElem?_cons_zero] at r0 r1
     refine .inl ⟨rfl,(w4.alloc (.cells #[.int .i64 fx,.int .i64 fy] 23)),fun i => ([.pointer (some ⟨w.heap.size,9,none⟩),.int .i64 s.most,.agg #[.int .i64 s.most,.int .i64 1],.agg #[.int .i64 ln,.int .i64 ld],.tuple #[.agg #[.int .i64 fx,.int .i64 fy],.int .i64 fz],.tuple #[.agg #[.int .i64 fx,.int .i64 fy],.int .i64 fz],.agg #[.int .i64 fx,.int .i64 fy],.int .i64 fz,.pointer (some ⟨w4.heap.size,0,none⟩),undef,.int .i64 fz] : List Value).getD i undef,by simp only [putAll,Act.put,List.setIfInBounds_toArray,List.set_cons_zero,List.set_cons_succ,];go_simp,agreeL_all (by refine ⟨?_,?_,?_,?_,?_,?_,?_,?_,?_,?_,?_,trivial⟩ <;> first | exact .inl rfl | exact .inr (.inr rfl) | exact .inr (.inl (by decide +kernel))),?_⟩
     refine poJ_end rfl ?_ ?_
     ·simp only [putAll,Act.put,List.setIfInBounds_toArray,List.set_cons_zero,List.set_cons_succ,readsQ]
      refine ⟨?_,?_,?_,?_,?_,?_,?_,?_,?_,?_,?_,trivial⟩
      all_goals first
       | exact .inl rfl
       | exact .inr (.inl (by decide +kernel))
       | (refine .inr (.inr ?_);go_simp;done)
     simp only [putAll,Act.put,List.setIfInBounds_toArray,List.set_cons_zero,List.set_cons_succ,]
     have HBz := Lib.hid (HQ0.out.alloc HQ0.out.size (.cells #[.int .i64 fx,.int .i64 fy] 23))
     have HLz := Lib.hid HQ0.out.size
     have HFz := Lib.hid (Blk.new w4 23 #[.int .i64 fx,.int .i64 fy])
     generalize (w4.alloc (.cells #[.int .i64 fx,.int .i64 fy] 23)) = w9 at HBz HFz ⊢
     generalize w4.heap.size = n9 at HLz HFz ⊢
     exact key n9 w9 ⟨HBz.out,HLz.out,HFz.out⟩
    ·exact absurd hr (by rw [show rdP .any _ [8,9] 9 = false by kernel_rfl];decide)
   ·obtain rfl := Option.some.inj ho
    clear hr ho
    have hqs := HQ.out.size
    have hqa := HQ.out.alloc hqs (.cells #[.int .i64 0,.int .i64 0] 23)
    refine .inr (.inl ⟨_,(w3.alloc (.cells #[.int .i64 0,.int .i64 0] 23)),fun i => ([.pointer (some ⟨w.heap.size,9,none⟩),.int .i64 s.most,.agg #[.int .i64 s.most,.int .i64 1],.agg #[.int .i64 ln,.int .i64 ld],undef,undef,undef,undef,.pointer (some ⟨w3.heap.size,0,none⟩),undef,undef] : List Value).getD i undef,by simp only [putAll,Act.put,List.setIfInBounds_toArray,List.set_cons_zero,List.set_cons_succ,];go_simp,agreeL_all (by refine ⟨?_,?_,?_,?_,?_,?_,?_,?_,?_,?_,?_,trivial⟩ <;> first | exact .inl rfl | exact .inr (.inr rfl) | exact .inr (.inl (by decide +kernel))),rfl,?_⟩)
    have HQ := Lib.hid hqa
    have b9 := (HQ.out.cell (p := ⟨w.heap.size,9,none⟩) HDl.out).trans HD9.out
    have b0 := (HQ.out.cell (p := ⟨n6,0,none⟩) HEl.out).trans HE0.out
    have b1 := (HQ.out.cell (p := ⟨n6,1,none⟩) HEl.out).trans HE1.out
    have HLq := Lib.hid hqs
    have HN2 := Lib.hid (Blk.new w3 23 #[.int .i64 0,.int .i64 0])
    refine poJ_step (L := [4,9]) rfl (by decide) ?_ ?_
    ·simp only [putAll,Act.put,List.setIfInBounds_toArray,List.set_cons_zero,List.set_cons_succ,readsQ]
     refine ⟨?_,?_,?_,?_,?_,?_,?_,?_,?_,?_,?_,trivial⟩
     all_goals first
      | exact .inl rfl
      | exact .inr (.inl (by decide +kernel))
      | (refine .inr (.inr ?_);go_simp;done)
    intro i o hi hr ho
    simp only [List.mem_cons,List.not_mem_nil,or_false] at hi
    rcases hi with rfl | rfl
    ·obtain rfl := Option.some.inj ho
     clear hr ho
     refine .inr (.inr ⟨50,#[.agg #[.int .i64 s.most,.int .i64 1],.agg #[.int .i64 ln,.int .i64 ld]],by simp only [putAll,Act.put,List.setIfInBounds_toArray,List.set_cons_zero,List.set_cons_succ,];go_simp,?_⟩)
     refine (HDv.out _).mono ?_
     rintro e w4 ⟨rfl,hb_w4⟩
     refine ⟨_,fun i => ([.pointer (some ⟨w.heap.size,9,none⟩),.int .i64 s.most,.agg #[.int .i64 s.most,.int .i64 1],.agg #[.int .i64 ln,.int .i64 ld],.tuple #[.agg #[.int .i64 fx,.int .i64 fy],.int .i64 fz],.tuple #[.agg #[.int .i64 fx,.int .i64 fy],.int .i64 fz],.agg #[.int .i64 fx,.int .i64 fy],.int .i64 fz,.pointer (some ⟨w3.heap.size,0,none⟩),undef,.int .i64 fz] : List Value).getD i undef,rfl,agreeL_all (by refine ⟨?_,?_,?_,?_,?_,?_,?_,?_,?_,?_,?_,trivial⟩ <;> first | exact .inl rfl | exact .inr (.inr rfl) | exact .inr (.inl (by decide +kernel))),rfl,?_⟩
     have HQ := Lib.hid (HQ.out.trans (hb_w4.mono HQ.out.size))
     have b9 := (HQ.out.cell (p := ⟨w.heap.size,9,none⟩) HDl.out).trans HD9.out
     have b0 := (HQ.out.cell (p := ⟨n6,0,none⟩) HEl.out).trans HE0.out
     have b1 := (HQ.out.cell (p := ⟨n6,1,none⟩) HEl.out).trans HE1.out
     have HN2 := Lib.hid (HN2.out.below hb_w4 HN2.out.lt)
     refine poJ_step (L := [9]) rfl (by decide) ?_ ?_
     ·simp only [putAll,Act.put,List.setIfInBounds_toArray,List.set_cons_zero,List.set_cons_succ,readsQ]
      refine ⟨?_,?_,?_,?_,?_,?_,?_,?_,?_,?_,?_,trivial⟩
      all_goals first
       | exact .inl rfl
       | exact .inr (.inl (by decide +kernel))
       | (refine .inr (.inr ?_);go_simp;done)
     intro i o hi hr ho
     simp only [List.mem_cons,List.not_mem_nil,or_false] at hi
     subst hi
     obtain rfl := Option.some.inj ho
     clear hr ho
     have r0 := HN2.out.cell 0
     have f0 := HN2.out.frozen 0
     have r1 := (HN2.out.set_ 0 (.int .i64 fx)).cell 1
     have f1 := (HN2.out.set_ 0 (.int .i64 fx)).frozen 1
     simp only [List.setIfInBounds_toArray,List.set_cons_zero,List.getElem?_toArray,List.getElem?_cons_succ,List.getElem?_cons_zero] at r0 r1
     refine .inl ⟨rfl,((w4.setCell ⟨w3.heap.size,0,none⟩ (.int .i64 fx)).setCell ⟨w3.heap.size,1,none⟩ (.int .i64 fy)),fun i => ([.pointer (some ⟨w.heap.size,9,none⟩),.int .i64 s.most,.agg #[.int .i64 s.most,.int .i64 1],.agg #[.int .i64 ln,.int .i64 ld],.tuple #[.agg #[.int .i64 fx,.int .i64 fy],.int .i64 fz],.tuple #[.agg #[.int .i64 fx,.int .i64 fy],.int .i64 fz],.agg #[.int .i64 fx,.int .i64 fy],.int .i64 fz,.pointer (some ⟨w3.heap.size,0,none⟩),undef,.int .i64 fz] : List Value).getD i undef,by simp only [putAll,Act.put,List.setIfInBounds_toArray,List.set_cons_zero,List.set_cons_succ,];go_simp,agreeL_all (by refine ⟨?_,?_,?_,?_,?_,?_,?_,?_,?_,?_,?_,trivial⟩ <;> first | exact .inl rfl | exact .inr (.inr rfl) | exact .inr (.inl (by decide +kernel))),?_⟩
     refine poJ_end rfl ?_ ?_
     ·simp only [putAll,Act.put,List.setIfInBounds_toArray,List.set_cons_zero,List.set_cons_succ,readsQ]
      refine ⟨?_,?_,?_,?_,?_,?_,?_,?_,?_,?_,?_,trivial⟩
      all_goals first
       | exact .inl rfl
       | exact .inr (.inl (by decide +kernel))
       | (refine .inr (.inr ?_);go_simp;done)
     simp only [putAll,Act.put,List.setIfInBounds_toArray,List.set_cons_zero,List.set_cons_succ,]
     have HLz := HLq
     have HBz := Lib.hid ((HQ.out.setCell (p := ⟨w3.heap.size,0,none⟩) HLq.out (.int .i64 fx)).setCell (p := ⟨w3.heap.size,1,none⟩) HLq.out (.int .i64 fy))
     have HFz := Lib.hid ((HN2.out.set_ 0 (.int .i64 fx)).set_ 1 (.int .i64 fy))
     simp only [List.setIfInBounds_toArray,List.set_cons_zero,List.set_cons_succ,] at HFz
     generalize ((w4.setCell ⟨w3.heap.size,0,none⟩ (.int .i64 fx)).setCell ⟨w3.heap.size,1,none⟩ (.int .i64 fy)) = w9 at HBz HFz ⊢
     generalize w3.heap.size = n9 at HLz HFz ⊢
     exact key n9 w9 ⟨HBz.out,HLz.out,HFz.out⟩
    ·exact absurd hr (by rw [show rdP .any _ [4,9] 9 = false by kernel_rfl];decide)
   ·exact absurd hr (by rw [show rdP .any _ [4,8,9] 9 = false by kernel_rfl];decide)
  ·exact absurd hr (by rw [show rdP .any _ [2,4,8,9] 4 = false by kernel_rfl];decide)
  ·obtain rfl := Option.some.inj ho
   clear hr ho
   have hqs := HQ.out.size
   have hqa := HQ.out.alloc hqs (.cells #[.int .i64 0,.int .i64 0] 23)
   refine .inr (.inl ⟨_,(W3.alloc (.cells #[.int .i64 0,.int .i64 0] 23)),fun i => ([.pointer (some ⟨w.heap.size,9,none⟩),.int .i64 s.most,undef,.agg #[.int .i64 ln,.int .i64 ld],undef,undef,undef,undef,.pointer (some ⟨W3.heap.size,0,none⟩),undef,undef] : List Value).getD i undef,by simp only [putAll,Act.put,List.setIfInBounds_toArray,List.set_cons_zero,List.set_cons_succ,];go_simp,agreeL_all (by refine ⟨?_,?_,?_,?_,?_,?_,?_,?_,?_,?_,?_,trivial⟩ <;> first | exact .inl rfl | exact .inr (.inr rfl) | exact .inr (.inl (by decide +kernel))),rfl,?_⟩)
   have HQ := Lib.hid hqa
   have b9 := (HQ.out.cell (p := ⟨w.heap.size,9,none⟩) HDl.out).trans HD9.out
   have b0 := (HQ.out.cell (p := ⟨n6,0,none⟩) HEl.out).trans HE0.out
   have b1 := (HQ.out.cell (p := ⟨n6,1,none⟩) HEl.out).trans HE1.out
   have HLq := Lib.hid hqs
   have HN2 := Lib.hid (Blk.new W3 23 #[.int .i64 0,.int .i64 0])
   refine poJ_step (L := [2,4,9]) rfl (by decide) ?_ ?_
   ·simp only [putAll,Act.put,List.setIfInBounds_toArray,List.set_cons_zero,List.set_cons_succ,readsQ]
    refine ⟨?_,?_,?_,?_,?_,?_,?_,?_,?_,?_,?_,trivial⟩
    all_goals first
     | exact .inl rfl
     | exact .inr (.inl (by decide +kernel))
     | (refine .inr (.inr ?_);go_simp;done)
   intro i o hi hr ho
   simp only [List.mem_cons,List.not_mem_nil,or_false] at hi
   rcases hi with rfl | rfl | rfl
   ·obtain rfl := Option.some.inj ho
    clear hr ho
    refine .inr (.inr ⟨51,#[.int .i64 s.most],by simp only [putAll,Act.put,List.setIfInBounds_toArray,List.set_cons_zero,List.set_cons_succ,];go_simp,?_⟩)
    refine (HO.out _).mono ?_
    rintro e w3 ⟨rfl,hb_w3⟩
    refine ⟨_,fun i => ([.pointer (some ⟨w.heap.size,9,none⟩),.int .i64 s.most,.agg #[.int .i64 s.most,.int .i64 1],.agg #[.int .i64 ln,.int .i64 ld],undef,undef,undef,undef,.pointer (some ⟨W3.heap.size,0,none⟩),undef,undef] : List Value).getD i undef,rfl,agreeL_all (by refine ⟨?_,?_,?_,?_,?_,?_,?_,?_,?_,?_,?_,trivial⟩ <;> first | exact .inl rfl | exact .inr (.inr rfl) | exact .inr (.inl (by decide +kernel))),rfl,?_⟩
    have HQ := Lib.hid (HQ.out.trans (hb_w3.mono HQ.out.size))
    have b9 := (HQ.out.cell (p := ⟨w.heap.size,9,none⟩) HDl.out).trans HD9.out
    have b0 := (HQ.out.cell (p := ⟨n6,0,none⟩) HEl.out).trans HE0.out
    have b1 := (HQ.out.cell (p := ⟨n6,1,none⟩) HEl.out).trans HE1.out
    have HN2 := Lib.hid (HN2.out.below hb_w3 HN2.out.lt)
    refine poJ_step (L := [4,9]) rfl (by decide) ?_ ?_
    ·simp only [putAll,Act.put,List.setIfInBounds_toArray,List.set_cons_zero,List.set_cons_succ,readsQ]
     refine ⟨?_,?_,?_,?_,?_,?_,?_,?_,?_,?_,?_,trivial⟩
     all_goals first
      | exact .inl rfl
      | exact .inr (.inl (by decide +kernel))
      | (refine .inr (.inr ?_);go_simp;done)
    intro i o hi hr ho
    simp only [List.mem_cons,List.not_mem_nil,or_false] at hi
    rcases hi with rfl | rfl
    ·obtain rfl := Option.some.inj ho
     clear hr ho
     refine .inr (.inr ⟨50,#[.agg #[.int .i64 s.most,.int .i64 1],.agg #[.int .i64 ln,.int .i64 ld]],by simp only [putAll,Act.put,List.setIfInBounds_toArray,List.set_cons_zero,List.set_cons_succ,];go_simp,?_⟩)
     refine (HDv.out _).mono ?_
     rintro e w4 ⟨rfl,hb_w4⟩
     refine ⟨_,fun i => ([.pointer (some ⟨w.heap.size,9,none⟩),.int .i64 s.most,.agg #[.int .i64 s.most,.int .i64 1],.agg #[.int .i64 ln,.int .i64 ld],.tuple #[.agg #[.int .i64 fx,.int .i64 fy],.int .i64 fz],.tuple #[.agg #[.int .i64 fx,.int .i64 fy],.int .i64 fz],.agg #[.int .i64 fx,.int .i64 fy],.int .i64 fz,.pointer (some ⟨W3.heap.size,0,none⟩),undef,.int .i64 fz] : List Value).getD i undef,rfl,agreeL_all (by refine ⟨?_,?_,?_,?_,?_,?_,?_,?_,?_,?_,?_,trivial⟩ <;> first | exact .inl rfl | exact .inr (.inr rfl) | exact .inr (.inl (by decide +kernel))),rfl,?_⟩
     have HQ := Lib.hid (HQ.out.trans (hb_w4.mono HQ.out.size))
     have b9 := (HQ.out.cell (p := ⟨w.heap.size,9,none⟩) HDl.out).trans HD9.out
     have b0 := (HQ.out.cell (p := ⟨n6,0,none⟩) HEl.out).trans HE0.out
     have b1 := (HQ.out.cell (p := ⟨n6,1,none⟩) HEl.out).trans HE1.out
     have HN2 := Lib.hid (HN2.out.below hb_w4 HN2.out.lt)
     refine poJ_step (L := [9]) rfl (by decide) ?_ ?_
     ·simp only [putAll,Act.put,List.setIfInBounds_toArray,List.set_cons_zero,List.set_cons_succ,readsQ]
      refine ⟨?_,?_,?_,?_,?_,?_,?_,?_,?_,?_,?_,trivial⟩
      all_goals first
       | exact .inl rfl
       | exact .inr (.inl (by decide +kernel))
       | (refine .inr (.inr ?_);go_simp;done)
     intro i o hi hr ho
     simp only [List.mem_cons,List.not_mem_nil,or_false] at hi
     subst hi
     obtain rfl := Option.some.inj ho
     clear hr ho
     have r0 := HN2.out.cell 0
     have f0 := HN2.out.frozen 0
     have r1 := (HN2.out.set_ 0 (.int .i64 fx)).cell 1
     have f1 := (HN2.out.set_ 0 (.int .i64 fx)).frozen 1
     simp only [List.setIfInBounds_toArray,List.set_cons_zero,List.getElem?_toArray,List.getElem?_cons_succ,List.getElem?_cons_zero] at r0 r1
     refine .inl ⟨rfl,((w4.setCell ⟨W3.heap.size,0,none⟩ (.int .i64 fx)).setCell ⟨W3.heap.size,1,none⟩ (.int .i64 fy)),fun i => ([.pointer (some ⟨w.heap.size,9,none⟩),.int .i64 s.most,.agg #[.int .i64 s.most,.int .i64 1],.agg #[.int .i64 ln,.int .i64 ld],.tuple #[.agg #[.int .i64 fx,.int .i64 fy],.int .i64 fz],.tuple #[.agg #[.int .i64 fx,.int .i64 fy],.int .i64 fz],.agg #[.int .i64 fx,.int .i64 fy],.int .i64 fz,.pointer (some ⟨W3.heap.size,0,none⟩),undef,.int .i64 fz] : List Value).getD i undef,by simp only [putAll,Act.put,List.setIfInBounds_toArray,List.set_cons_zero,List.set_cons_succ,];go_simp,agreeL_all (by refine ⟨?_,?_,?_,?_,?_,?_,?_,?_,?_,?_,?_,trivial⟩ <;> first | exact .inl rfl | exact .inr (.inr rfl) | exact .inr (.inl (by decide +kernel))),?_⟩
     refine poJ_end rfl ?_ ?_
     ·simp only [putAll,Act.put,List.setIfInBounds_toArray,List.set_cons_zero,List.set_cons_succ,readsQ]
      refine ⟨?_,?_,?_,?_,?_,?_,?_,?_,?_,?_,?_,trivial⟩
      all_goals first
       | exact .inl rfl
       | exact .inr (.inl (by decide +kernel))
       | (refine .inr (.inr ?_);go_simp;done)
     simp only [putAll,Act.put,List.setIfInBounds_toArray,List.set_cons_zero,List.set_cons_succ,]
     have HLz := HLq
     have HBz := Lib.hid ((HQ.out.setCell (p := ⟨W3.heap.size,0,none⟩) HLq.out (.int .i64 fx)).setCell (p := ⟨W3.heap.size,1,none⟩) HLq.out (.int .i64 fy))
     have HFz := Lib.hid ((HN2.out.set_ 0 (.int .i64 fx)).set_ 1 (.int .i64 fy))
     simp only [List.setIfInBounds_toArray,List.set_cons_zero,List.set_cons_succ,] at HFz
     generalize ((w4.setCell ⟨W3.heap.size,0,none⟩ (.int .i64 fx)).setCell ⟨W3.heap.size,1,none⟩ (.int .i64 fy)) = w9 at HBz HFz ⊢
     generalize W3.heap.size = n9 at HLz HFz ⊢
     exact key n9 w9 ⟨HBz.out,HLz.out,HFz.out⟩
    ·exact absurd hr (by rw [show rdP .any _ [4,9] 9 = false by kernel_rfl];decide)
   ·exact absurd hr (by rw [show rdP .any _ [2,4,9] 4 = false by kernel_rfl];decide)
   ·exact absurd hr (by rw [show rdP .any _ [2,4,9] 9 = false by kernel_rfl];decide)
  ·exact absurd hr (by rw [show rdP .any _ [2,4,8,9] 9 = false by kernel_rfl];decide)
 ·rintro n9 w9 ⟨hb9,hl9,hk9⟩
  have HB := Lib.hid (HB.out.trans (hb9.mono HB.out.size))
  have HR := Lib.hid (HR.out.below hb9 HR.out.lt)
  have HK := Lib.hid hk9
  clear hb9 hl9 hk9 HO HDv HD9 HE0 HE1 HDl HEl
  cases hok : ok with
  | false =>
   have hfz := HFV.out.2 hok
   have HV4 : Hid (wv = .tuple #[.int .i64 0,.agg #[.int .i64 0,.int .i64 0],.int .i64 5]) := by unfold Hid;rw [HV3.out,if_neg (by rw [hok];decide)]
   subst hfz
   clear HFV HV3 hok
   have r0 := HR.out.cell 0
   have g0 := HR.out.frozen 0
   have L3 := HR.out.set_ 0 (.int .i64 0)
   have r1 := L3.cell 1
   have g1 := L3.frozen 1
   have L4 := L3.set_ 1 (.int .i64 0)
   have q0 := L4.cell 0
   have q1 := L4.cell 1
   simp only [List.setIfInBounds_toArray,List.set_cons_zero,List.set_cons_succ,List.getElem?_toArray,List.getElem?_cons_succ,List.getElem?_cons_zero] at r0 r1 q0 q1
   have BZ := Lib.hid ((HB.out.setCell (p := ⟨w.heap.size + 1,0,none⟩) (Nat.le_succ _) (.int .i64 0)).setCell (p := ⟨w.heap.size + 1,1,none⟩) (Nat.le_succ _) (.int .i64 0))
   clear L3 L4
   go_wp2_with fail
   refine bodyPost_ret (v := .tuple #[.int .i64 0,.agg #[.int .i64 0,.int .i64 0],.int .i64 5]) (by simp [results,Tryz.results23,go_sem,q0,q1]) rfl ?_
   exact ⟨by rw [HV4.out],BZ.out⟩
  | true =>
   obtain ⟨-,hfo,hfz⟩ := HFV.out.1 hok
   have HV4 : Hid (wv = .tuple #[.int .i64 (h : Nat),.agg #[.int .i64 fx,.int .i64 fy],.int .i64 0]) := by unfold Hid;rw [HV3.out,if_pos hok,hfo]
   subst hfz
   clear HFV HV3 hok hfo
   go_upto_region 9 with fail
   have HB := Lib.hid HB.out.drew
   have HR : Hid (Blk w9.drew (w.heap.size + 1) 23 #[.int .i64 0,.int .i64 0]) := HR.out.drewN 1
   have HK : Hid (Blk w9.drew n9 23 #[.int .i64 fx,.int .i64 fy]) := HK.out.drewN 1
   refine wp_region_po (fun i => ([.int .i64 (h : Int),.agg #[.int .i64 fx,.int .i64 fy],.int .i64 (h : Int),undef,.int .i64 0] : List Value).getD i undef) [3] (by kernel_rfl) (by kernel_rfl) (by kernel_rfl) (by decide) ?_
   generalize w9.drew = W9 at *
   have b0 := HK.out.cell 0
   have b1 := HK.out.cell 1
   simp only [List.getElem?_toArray,List.getElem?_cons_succ,List.getElem?_cons_zero] at b0 b1
   have r0 := HR.out.cell 0
   have g0 := HR.out.frozen 0
   have L3 := HR.out.set_ 0 (.int .i64 fx)
   have r1 := L3.cell 1
   have g1 := L3.frozen 1
   have L4 := L3.set_ 1 (.int .i64 fy)
   have q0 := L4.cell 0
   have q1 := L4.cell 1
   simp only [List.setIfInBounds_toArray,List.set_cons_zero,List.set_cons_succ,List.getElem?_toArray,List.getElem?_cons_succ,List.getElem?_cons_zero] at r0 r1 q0 q1
   have BZ := Lib.hid ((HB.out.setCell (p := ⟨w.heap.size + 1,0,none⟩) (Nat.le_succ _) (.int .i64 fx)).setCell (p := ⟨w.heap.size + 1,1,none⟩) (Nat.le_succ _) (.int .i64 fy))
   clear L3 L4
   refine poJ_step (L := [3]) rfl (by decide) ?_ ?_
   ·simp only [putAll,Act.put,List.setIfInBounds_toArray,List.set_cons_zero,List.set_cons_succ,readsQ]
    refine ⟨?_,?_,?_,?_,?_,trivial⟩
    all_goals first
     | exact .inl rfl
     | exact .inr (.inl (by decide +kernel))
     | (refine .inr (.inr ?_);go_simp;done)
   intro i o hi hr ho
   simp only [List.mem_cons,List.not_mem_nil,or_false] at hi
   subst hi
   obtain rfl := Option.some.inj ho
   clear hr ho
   refine .inl ⟨rfl,((W9.setCell ⟨w.heap.size + 1,0,none⟩ (.int .i64 fx)).setCell ⟨w.heap.size + 1,1,none⟩ (.int .i64 fy)),fun i => ([.int .i64 (h : Int),.agg #[.int .i64 fx,.int .i64 fy],.int .i64 (h : Int),undef,.int .i64 0] : List Value).getD i undef,by simp only [putAll,Act.put,List.setIfInBounds_toArray,List.set_cons_zero,List.set_cons_succ,];go_simp,agreeL_all (by refine ⟨?_,?_,?_,?_,?_,trivial⟩ <;> first | exact .inl rfl | exact .inr (.inr rfl) | exact .inr (.inl (by decide +kernel))),?_⟩
   refine poJ_end rfl ?_ ?_
   ·simp only [putAll,Act.put,List.setIfInBounds_toArray,List.set_cons_zero,List.set_cons_succ,readsQ]
    refine ⟨?_,?_,?_,?_,?_,trivial⟩
    all_goals first
     | exact .inl rfl
     | exact .inr (.inl (by decide +kernel))
     | (refine .inr (.inr ?_);go_simp;done)
   simp only [putAll,Act.put,List.setIfInBounds_toArray,List.set_cons_zero,List.set_cons_succ,]
   go_wp2_with fail
   refine bodyPost_ret (v := .tuple #[.int .i64 (h : Int),.agg #[.int .i64 fx,.int .i64 fy],.int .i64 0]) (by simp [results,Tryz.results23,go_sem,q0,q1]) rfl ?_
   exact ⟨by rw [HV4.out],BZ.out⟩
end Go.Proofs.YtknkhnahflmjiaaGreatDoor

namespace Go.Proofs.YtknkhnahflmjiaaGreatDoor
open Go.RowKit Go.Shelf
set_option maxRecDepth 100000 in
set_option maxHeartbeats 1000000 in
theorem law23Few (v : Value) (s : SetT) (w : World) (hv : SetAt w w.heap.size v s) (hn : SetNames s) : Calls Tryz.prog 17 #[v] w fun e w' => ∃ q : Bool,e = .returned (.bool q) ∧ Below w.heap.size w w' := by
 have HS := fun W (hb : Below w.heap.size w W) => refSmall v s 12 W (hv.grow hb) hn.name hn.items hn.bricks
 unfold AnsB at HS
 obtain ⟨Al,cl,Ai,ci,Ab,cb,rfl,-,-,-⟩ := hv
 have HD := Lib.hid (Blk.new w 37 #[.string s.name,.int .i64 s.depth,.int .i64 s.low,.int .i64 s.high,.int .i64 s.len,.slice Al s.lines.length cl,.int .i64 s.pipe,.int .i64 s.arbor,.int .i64 s.purch,.int .i64 s.most,.int .i64 s.brake,.slice Ai s.items.length ci,.slice Ab s.bricks.length cb])
 have HB := Lib.hid ((Below.refl _ w).alloc (Nat.le_refl _) (.cells #[.string s.name,.int .i64 s.depth,.int .i64 s.low,.int .i64 s.high,.int .i64 s.len,.slice Al s.lines.length cl,.int .i64 s.pipe,.int .i64 s.arbor,.int .i64 s.purch,.int .i64 s.most,.int .i64 s.brake,.slice Ai s.items.length ci,.slice Ab s.bricks.length cb] 37))
 have hs := HS _ HB.out
 clear HS hn
 unfold setVal at *
 go_enter Tryz.func17,Tryz.ntmps17
 go_upto_region 1 with fail
 generalize w.alloc (.cells #[.string s.name,.int .i64 s.depth,.int .i64 s.low,.int .i64 s.high,.int .i64 s.len,.slice Al s.lines.length cl,.int .i64 s.pipe,.int .i64 s.arbor,.int .i64 s.purch,.int .i64 s.most,.int .i64 s.brake,.slice Ai s.items.length ci,.slice Ab s.bricks.length cb] 37) = W1 at *
 have z0 := HD.out.cell 0;have z1 := HD.out.cell 1;have z2 := HD.out.cell 2;have z3 := HD.out.cell 3;have z4 := HD.out.cell 4;have z5 := HD.out.cell 5;have z6 := HD.out.cell 6;have z7 := HD.out.cell 7;have z8 := HD.out.cell 8;have z9 := HD.out.cell 9;have z10 := HD.out.cell 10;have z11 := HD.out.cell 11;have z12 := HD.out.cell 12
 simp only [List.getElem?_toArray,List.getElem?_cons_succ,List.getElem?_cons_zero] at z0 z1 z2 z3 z4 z5 z6 z7 z8 z9 z10 z11 z12
 go_wp2_with (first | (go_at_call 41;refine hs.mono ?_;rintro e w2 ⟨q,rfl,hb2⟩))
 go_ret
 exact ⟨q,rfl,HB.out.trans (hb2.mono HB.out.size)⟩
theorem entersW1 : ∀ args w,(callFunc 30 args).run Tryz.prog w = .ok (.enter 30 args) w := enters_of Tryz.func30 (by kernel_rfl) rfl
theorem lawWeak1 (x : FindT) (w : World) : Calls Tryz.prog 30 #[x.val] w fun e w' => e = .returned (.bool (x.kind == 1)) ∧ Below w.heap.size w w' := by
 have HB := Lib.hid ((Below.refl _ w).alloc (Nat.le_refl _) (.cells #[.int .i64 x.kind,.string x.name] 49))
 obtain ⟨k,n⟩ := x
 simp only at *
 go_enter Tryz.func30,Tryz.ntmps30
 go_wp2_with fail
 go_ret
 exact ⟨rfl,HB.out⟩
theorem weak_form (s : SetT) : ∃ i x y z : Int,weakV s = .tuple #[.int .i64 i,.agg #[.int .i64 x,.int .i64 y],.int .i64 z] := by
 unfold weakV
 split
 ·split
  ·exact ⟨_,_,_,_,rfl⟩
  ·split
   ·exact ⟨_,_,_,_,rfl⟩
   ·exact ⟨_,_,_,_,rfl⟩
 ·exact ⟨_,_,_,_,rfl⟩
theorem factor_pos {y : FrT} {m : Int} (h1 : frGood y = true) (h2 : 0 < y.num) (h3 : 1 ≤ m ∧ m ≤ 67108864) : factorV y m = fracV (qOf ⟨m,1⟩ / qOf y) := by
 have hE : factorE y m = 0 := by
  unfold factorE
  rw [if_pos h1,if_pos ⟨h3.1,h3.2,Int.le_of_lt h2⟩,if_neg (by omega)]
 unfold factorV
 rw [if_pos hE]
theorem check_parts {s : SetT} {f : FrT} (h : check23E s f = 0) : givenE s f = 0 ∧ fits23 f (linesL s) = true := by
 unfold check23E at h
 split at h
 ·rename_i h1
  split at h
  ·rename_i h2
   exact ⟨h1,h2⟩
  ·cases h
 ·rename_i h1
  exact absurd h h1
set_option maxRecDepth 100000 in
set_option maxHeartbeats 4000000 in
theorem lawWeakest (v : Value) (s : SetT) (f : FrT) (w : World) (hv : SetAt w w.heap.size v s) (hn : SetNames s) : Calls Tryz.prog 7 #[v,f.val] w fun e w' => e = .returned (.bool true) ∧ Below w.heap.size w w' := by
 have HFew := fun W (hb : Below w.heap.size w W) => law23Few v s W (hv.grow hb) hn
 have HWk := fun W (hb : Below w.heap.size w W) => lmWeakest v s W (hv.grow hb) hn
 have HCk := fun W (hb : Below w.heap.size w W) => lmCheck v s f W (hv.grow hb) hn
 have HLs := fun W (hb : Below w.heap.size w W) => lfLines v s W (hv.grow hb) hn
 have HAw := Lib.hid fun W => lawAwake23 W
 unfold Check23Post at HCk
 unfold LinesPost at HLs
 obtain ⟨Al,cl,Ai,ci,Ab,cb,rfl,-,-,-⟩ := hv
 obtain ⟨fn,hfn⟩ : ∃ fn,f.num = fn := ⟨_,rfl⟩
 obtain ⟨fd,hfd⟩ : ∃ fd,f.den = fd := ⟨_,rfl⟩
 have hfv : f.val = .agg #[.int .i64 fn,.int .i64 fd] := by rw [← hfn,← hfd]
 rw [hfv] at HCk ⊢
 have HD := Lib.hid ((Blk.new w 37 #[.string s.name,.int .i64 s.depth,.int .i64 s.low,.int .i64 s.high,.int .i64 s.len,.slice Al s.lines.length cl,.int .i64 s.pipe,.int .i64 s.arbor,.int .i64 s.purch,.int .i64 s.most,.int .i64 s.brake,.slice Ai s.items.length ci,.slice Ab s.bricks.length cb]).alloc (.cells #[.int .i64 fn,.int .i64 fd] 23))
 have hE := Blk.new (w.alloc (.cells #[.string s.name,.int .i64 s.depth,.int .i64 s.low,.int .i64 s.high,.int .i64 s.len,.slice Al s.lines.length cl,.int .i64 s.pipe,.int .i64 s.arbor,.int .i64 s.purch,.int .i64 s.most,.int .i64 s.brake,.slice Ai s.items.length ci,.slice Ab s.bricks.length cb] 37)) 23 #[.int .i64 fn,.int .i64 fd]
 rw [World.size_alloc] at hE
 have HE := Lib.hid hE
 have HB := Lib.hid (((Below.refl _ w).alloc (Nat.le_refl _) (.cells #[.string s.name,.int .i64 s.depth,.int .i64 s.low,.int .i64 s.high,.int .i64 s.len,.slice Al s.lines.length cl,.int .i64 s.pipe,.int .i64 s.arbor,.int .i64 s.purch,.int .i64 s.most,.int .i64 s.brake,.slice Ai s.items.length ci,.slice Ab s.bricks.length cb] 37)).alloc (by simp) (.cells #[.int .i64 fn,.int .i64 fd] 23))
 have HFewH := Lib.hid HFew
 have HWkH := Lib.hid HWk
 have HCkH := Lib.hid HCk
 have HLsH := Lib.hid HLs
 clear hE HFew HWk HCk HLs hn
 unfold setVal at *
 go_enter Tryz.func7,Tryz.ntmps7
 go_upto_region 1 with fail
 generalize (w.alloc (.cells #[.string s.name,.int .i64 s.depth,.int .i64 s.low,.int .i64 s.high,.int .i64 s.len,.slice Al s.lines.length cl,.int .i64 s.pipe,.int .i64 s.arbor,.int .i64 s.purch,.int .i64 s.most,.int .i64 s.brake,.slice Ai s.items.length ci,.slice Ab s.bricks.length cb] 37)).alloc (.cells #[.int .i64 fn,.int .i64 fd] 23) = W1 at *
 go_upto_region 3 with (first | (go_at_call 11;refine (HAw.out _).mono ?_;rintro e w1 ⟨rfl,hb_w1⟩))
 have HD := Lib.hid (HD.out.below hb_w1 HD.out.lt)
 have HE := Lib.hid (HE.out.below hb_w1 HE.out.lt)
 have HB := Lib.hid (HB.out.trans (hb_w1.mono HB.out.size))
 clear hb_w1 HAw
 have z0 := HD.out.cell 0;have z1 := HD.out.cell 1;have z2 := HD.out.cell 2;have z3 := HD.out.cell 3;have z4 := HD.out.cell 4;have z5 := HD.out.cell 5;have z6 := HD.out.cell 6;have z7 := HD.out.cell 7;have z8 := HD.out.cell 8;have z9 := HD.out.cell 9;have z10 := HD.out.cell 10;have z11 := HD.out.cell 11;have z12 := HD.out.cell 12
 simp only [List.getElem?_toArray,List.getElem?_cons_succ,List.getElem?_cons_zero] at z0 z1 z2 z3 z4 z5 z6 z7 z8 z9 z10 z11 z12
 have hfw := HFewH.out _ HB.out
 go_wp2_with (first | (go_at_call 17;exact Go.WalkKit.wp_stop))
 refine hfw.mono ?_
 rintro e w2 ⟨q,rfl,hb_w2⟩
 have HD := Lib.hid (HD.out.below hb_w2 HD.out.lt)
 have HE := Lib.hid (HE.out.below hb_w2 HE.out.lt)
 have HB := Lib.hid (HB.out.trans (hb_w2.mono HB.out.size))
 clear hb_w2 hfw HFewH z0 z1 z2 z3 z4 z5 z6 z7 z8 z9 z10 z11 z12
 cases q with
 | false =>
  go_wp2_with fail
  go_ret
  exact ⟨rfl,HB.out⟩
 | true =>
  have hwk := HWkH.out
  by_cases hchk : check23E s f = 0
  rotate_left
  ·obtain ⟨wi,wx,wy,wz,hwf⟩ := weak_form s
   rw [hwf] at hwk
   have z0 := HD.out.cell 0;have z1 := HD.out.cell 1;have z2 := HD.out.cell 2;have z3 := HD.out.cell 3;have z4 := HD.out.cell 4;have z5 := HD.out.cell 5;have z6 := HD.out.cell 6;have z7 := HD.out.cell 7;have z8 := HD.out.cell 8;have z9 := HD.out.cell 9;have z10 := HD.out.cell 10;have z11 := HD.out.cell 11;have z12 := HD.out.cell 12
   simp only [List.getElem?_toArray,List.getElem?_cons_succ,List.getElem?_cons_zero] at z0 z1 z2 z3 z4 z5 z6 z7 z8 z9 z10 z11 z12
   go_upto_region 6 with (first | (go_at_call 23;refine (hwk _ HB.out).mono ?_;rintro e w3 ⟨rfl,hb3⟩))
   have hb4 := hb3.alloc hb3.size (.cells #[.int .i64 wx,.int .i64 wy] 23)
   clear z0 z1 z2 z3 z4 z5 z6 z7 z8 z9 z10 z11 z12
   have HD := Lib.hid (HD.out.below hb4 HD.out.lt)
   have HE := Lib.hid (HE.out.below hb4 HE.out.lt)
   have HB := Lib.hid (HB.out.trans (hb4.mono HB.out.size))
   have HX := Lib.hid (Blk.new w3 23 #[.int .i64 wx,.int .i64 wy])
   clear hb3 hb4
   generalize w3.alloc (.cells #[.int .i64 wx,.int .i64 wy] 23) = W3 at *
   generalize w3.heap.size = n6 at HX ⊢
   have z0 := HD.out.cell 0;have z1 := HD.out.cell 1;have z2 := HD.out.cell 2;have z3 := HD.out.cell 3;have z4 := HD.out.cell 4;have z5 := HD.out.cell 5;have z6 := HD.out.cell 6;have z7 := HD.out.cell 7;have z8 := HD.out.cell 8;have z9 := HD.out.cell 9;have z10 := HD.out.cell 10;have z11 := HD.out.cell 11;have z12 := HD.out.cell 12
   simp only [List.getElem?_toArray,List.getElem?_cons_succ,List.getElem?_cons_zero] at z0 z1 z2 z3 z4 z5 z6 z7 z8 z9 z10 z11 z12
   have HEc0 := HE.out.cell 0
   have HEc1 := HE.out.cell 1
   simp only [List.getElem?_toArray,List.getElem?_cons_succ,List.getElem?_cons_zero] at HEc0 HEc1
   have hck := HCkH.out _ HB.out
   go_upto_region 7 with (first | (go_at_call 18;refine hck.mono ?_;rintro e w5 ⟨hb5,⟨h0,-⟩ | ⟨h0,rfl⟩⟩))
   have HB := Lib.hid (HB.out.trans (hb5.mono HB.out.size))
   have hne : (check23E s f != 0) = true := bne_iff_ne.2 hchk
   clear hwk hck hchk
   go_wp2_with fail
   go_ret
   exact ⟨rfl,HB.out⟩
  obtain ⟨hgv,hfit⟩ := check_parts hchk
  obtain ⟨hset,hfac,hle⟩ := given23 hgv
  obtain ⟨hgf,hf1,hf2,hf3⟩ := fac23 hfac
  obtain ⟨-,hlg,hl12,hl0⟩ := lines23 hle
  have hmost := (setB_ok hset).most
  have hf0 : 0 ≤ f.num := by have := good_bd hgf;omega
  have hkf : ∀ a ∈ linesL s,fracOk (qOf a * qOf f) = true := by unfold fits23 at hfit;exact List.all_eq_true.1 hfit
  have hwv : weakV s = _ := if_pos hle
  have HNone := Lib.hid (weak_none hlg hl0 hmost hgf hf0 hkf)
  have HSome := Lib.hid (weak_some hlg hl0 hmost hgf hf0 hkf)
  have HLeast := Lib.hid fun hq (y : FrT) (hy : y ∈ linesL s) (h0 : 0 < y.num) hz => weak_least hlg hl0 hmost hq hy h0 hz
  have HLen : Hid (heavTo (linesL s) (linesL s).length < (linesL s).length) := heavTo_lt hl0 _ (Nat.le_refl _)
  have HCF : Hid ((finds23 s.most f (linesL s)).any (fun x => x.kind == 1) = (linesL s).any (over23 s.most f)) := finds23_first
  have HLs2 : Hid (∀ W,Below w.heap.size w W → Calls Tryz.prog 20 #[.agg #[.string s.name,.int .i64 s.depth,.int .i64 s.low,.int .i64 s.high,.int .i64 s.len,.slice Al s.lines.length cl,.int .i64 s.pipe,.int .i64 s.arbor,.int .i64 s.purch,.int .i64 s.most,.int .i64 s.brake,.slice Ai s.items.length ci,.slice Ab s.bricks.length cb]] W fun e w' => Below W.heap.size W w' ∧ ∃ v4,e = .returned (.tuple #[v4,.int .i64 0]) ∧ FrsAt w' w'.heap.size v4 (linesL s)) := fun W hb => by
   refine (HLsH.out W hb).mono ?_
   rintro e w' ⟨h1,⟨-,v4,h2,h3⟩ | ⟨h2,-⟩⟩
   ·exact ⟨h1,v4,h2,h3⟩
   ·exact absurd hle h2
  have HCk2 : Hid (∀ W,Below w.heap.size w W → Calls Tryz.prog 18 #[.agg #[.string s.name,.int .i64 s.depth,.int .i64 s.low,.int .i64 s.high,.int .i64 s.len,.slice Al s.lines.length cl,.int .i64 s.pipe,.int .i64 s.arbor,.int .i64 s.purch,.int .i64 s.most,.int .i64 s.brake,.slice Ai s.items.length ci,.slice Ab s.bricks.length cb],.agg #[.int .i64 fn,.int .i64 fd]] W fun e w' => Below W.heap.size W w' ∧ ∃ v,e = .returned (.tuple #[v,.int .i64 0]) ∧ FindsAt w' w'.heap.size v (finds23 s.most f (linesL s))) := fun W hb => by
   refine (HCkH.out W hb).mono ?_
   rintro e w' ⟨h1,⟨-,v4,h2,h3⟩ | ⟨h2,-⟩⟩
   ·exact ⟨h1,v4,h2,h3⟩
   ·exact absurd hchk h2
  clear HCkH HLsH HWkH hchk hgv hset hfac hle hf1 hf2 hf3 hkf hfit hf0
  generalize linesL s = l at *
  generalize finds23 s.most f l = F at *
  generalize l.any (over23 s.most f) = first at *
  generalize heavTo l l.length = h at *
  by_cases hneg : (frAt l h).num ≤ 0
  ·have hf9 := HNone.out hneg
   subst hf9
   rw [hwv,if_pos hneg] at hwk
   have z0 := HD.out.cell 0;have z1 := HD.out.cell 1;have z2 := HD.out.cell 2;have z3 := HD.out.cell 3;have z4 := HD.out.cell 4;have z5 := HD.out.cell 5;have z6 := HD.out.cell 6;have z7 := HD.out.cell 7;have z8 := HD.out.cell 8;have z9 := HD.out.cell 9;have z10 := HD.out.cell 10;have z11 := HD.out.cell 11;have z12 := HD.out.cell 12
   simp only [List.getElem?_toArray,List.getElem?_cons_succ,List.getElem?_cons_zero] at z0 z1 z2 z3 z4 z5 z6 z7 z8 z9 z10 z11 z12
   go_upto_region 6 with (first | (go_at_call 23;refine (hwk _ HB.out).mono ?_;rintro e w3 ⟨rfl,hb3⟩))
   have hb4 := hb3.alloc hb3.size (.cells #[.int .i64 0,.int .i64 0] 23)
   clear z0 z1 z2 z3 z4 z5 z6 z7 z8 z9 z10 z11 z12
   have HD := Lib.hid (HD.out.below hb4 HD.out.lt)
   have HE := Lib.hid (HE.out.below hb4 HE.out.lt)
   have HB := Lib.hid (HB.out.trans (hb4.mono HB.out.size))
   have HX := Lib.hid (Blk.new w3 23 #[.int .i64 0,.int .i64 0])
   clear hb3 hb4
   generalize w3.alloc (.cells #[.int .i64 0,.int .i64 0] 23) = W3 at *
   generalize w3.heap.size = n6 at HX ⊢
   have z0 := HD.out.cell 0;have z1 := HD.out.cell 1;have z2 := HD.out.cell 2;have z3 := HD.out.cell 3;have z4 := HD.out.cell 4;have z5 := HD.out.cell 5;have z6 := HD.out.cell 6;have z7 := HD.out.cell 7;have z8 := HD.out.cell 8;have z9 := HD.out.cell 9;have z10 := HD.out.cell 10;have z11 := HD.out.cell 11;have z12 := HD.out.cell 12
   simp only [List.getElem?_toArray,List.getElem?_cons_succ,List.getElem?_cons_zero] at z0 z1 z2 z3 z4 z5 z6 z7 z8 z9 z10 z11 z12
   have HEc0 := HE.out.cell 0
   have HEc1 := HE.out.cell 1
   simp only [List.getElem?_toArray,List.getElem?_cons_succ,List.getElem?_cons_zero] at HEc0 HEc1
   clear HNone HSome HLeast HLen HLs2 hneg hwv hwk
   have hck := HCk2.out _ HB.out
   go_upto_region 9 with (first | (go_at_call 18;refine hck.mono ?_;rintro e w5 ⟨hb5,v5,rfl,hF5⟩))
   clear HEc0 HEc1 z0 z1 z2 z3 z4 z5 z6 z7 z8 z9 z10 z11 z12 hck HCk2
   have HD := Lib.hid (HD.out.below hb5 HD.out.lt)
   have HE := Lib.hid (HE.out.below hb5 HE.out.lt)
   have HX := Lib.hid (HX.out.below hb5 HX.out.lt)
   have HB := Lib.hid (HB.out.trans (hb5.mono HB.out.size))
   clear hb5
   have hcf := containsFuncFind v5 F 30 #[] (fun x => x.kind == 1) entersW1 _ hF5 (fun t _ W _ => by rw [show #[t.val] ++ #[] = #[t.val] by simp];exact lawWeak1 t W)
   rw [HCF.out] at hcf
   clear HCF hF5
   go_upto_region 10 with (first | (go_at_call 29;refine hcf.mono ?_;rintro e w6 ⟨rfl,hb6⟩))
   have HD := Lib.hid (HD.out.below hb6 HD.out.lt)
   have HE := Lib.hid (HE.out.below hb6 HE.out.lt)
   have HX := Lib.hid (HX.out.below hb6 HX.out.lt)
   have HB := Lib.hid (HB.out.trans (hb6.mono HB.out.size))
   clear hb6 hcf
   go_wp2_with fail
   go_ret
   exact ⟨rfl,HB.out⟩
  cases hqk : fracOk (qOf ⟨s.most,1⟩ / qOf (frAt l h)) with
  | false =>
   rw [hwv,if_neg hneg,if_neg (by rw [hqk];decide)] at hwk
   have z0 := HD.out.cell 0;have z1 := HD.out.cell 1;have z2 := HD.out.cell 2;have z3 := HD.out.cell 3;have z4 := HD.out.cell 4;have z5 := HD.out.cell 5;have z6 := HD.out.cell 6;have z7 := HD.out.cell 7;have z8 := HD.out.cell 8;have z9 := HD.out.cell 9;have z10 := HD.out.cell 10;have z11 := HD.out.cell 11;have z12 := HD.out.cell 12
   simp only [List.getElem?_toArray,List.getElem?_cons_succ,List.getElem?_cons_zero] at z0 z1 z2 z3 z4 z5 z6 z7 z8 z9 z10 z11 z12
   go_upto_region 6 with (first | (go_at_call 23;refine (hwk _ HB.out).mono ?_;rintro e w3 ⟨rfl,hb3⟩))
   have hb4 := hb3.alloc hb3.size (.cells #[.int .i64 0,.int .i64 0] 23)
   clear z0 z1 z2 z3 z4 z5 z6 z7 z8 z9 z10 z11 z12
   have HD := Lib.hid (HD.out.below hb4 HD.out.lt)
   have HE := Lib.hid (HE.out.below hb4 HE.out.lt)
   have HB := Lib.hid (HB.out.trans (hb4.mono HB.out.size))
   have HX := Lib.hid (Blk.new w3 23 #[.int .i64 0,.int .i64 0])
   clear hb3 hb4
   generalize w3.alloc (.cells #[.int .i64 0,.int .i64 0] 23) = W3 at *
   generalize w3.heap.size = n6 at HX ⊢
   have z0 := HD.out.cell 0;have z1 := HD.out.cell 1;have z2 := HD.out.cell 2;have z3 := HD.out.cell 3;have z4 := HD.out.cell 4;have z5 := HD.out.cell 5;have z6 := HD.out.cell 6;have z7 := HD.out.cell 7;have z8 := HD.out.cell 8;have z9 := HD.out.cell 9;have z10 := HD.out.cell 10;have z11 := HD.out.cell 11;have z12 := HD.out.cell 12
   simp only [List.getElem?_toArray,List.getElem?_cons_succ,List.getElem?_cons_zero] at z0 z1 z2 z3 z4 z5 z6 z7 z8 z9 z10 z11 z12
   have HEc0 := HE.out.cell 0
   have HEc1 := HE.out.cell 1
   simp only [List.getElem?_toArray,List.getElem?_cons_succ,List.getElem?_cons_zero] at HEc0 HEc1
   clear HNone HSome HLeast HLen HLs2 hneg hwv hwk hqk
   have hck := HCk2.out _ HB.out
   go_upto_region 9 with (first | (go_at_call 18;refine hck.mono ?_;rintro e w5 ⟨hb5,v5,rfl,hF5⟩))
   clear HEc0 HEc1 z0 z1 z2 z3 z4 z5 z6 z7 z8 z9 z10 z11 z12 hck HCk2
   have HD := Lib.hid (HD.out.below hb5 HD.out.lt)
   have HE := Lib.hid (HE.out.below hb5 HE.out.lt)
   have HX := Lib.hid (HX.out.below hb5 HX.out.lt)
   have HB := Lib.hid (HB.out.trans (hb5.mono HB.out.size))
   clear hb5
   have hcf := containsFuncFind v5 F 30 #[] (fun x => x.kind == 1) entersW1 _ hF5 (fun t _ W _ => by rw [show #[t.val] ++ #[] = #[t.val] by simp];exact lawWeak1 t W)
   rw [HCF.out] at hcf
   clear HCF hF5
   go_upto_region 10 with (first | (go_at_call 29;refine hcf.mono ?_;rintro e w6 ⟨rfl,hb6⟩))
   have HD := Lib.hid (HD.out.below hb6 HD.out.lt)
   have HE := Lib.hid (HE.out.below hb6 HE.out.lt)
   have HX := Lib.hid (HX.out.below hb6 HX.out.lt)
   have HB := Lib.hid (HB.out.trans (hb6.mono HB.out.size))
   clear hb6 hcf
   go_wp2_with fail
   go_ret
   exact ⟨rfl,HB.out⟩
  | true =>
   rw [hwv,if_neg hneg,if_pos hqk] at hwk
   have hgq := good_q hqk
   have hse := HSome.out (by omega) hqk
   have HLe2 := Lib.hid fun (y : FrT) (hy : y ∈ l) (h0 : 0 < y.num) hz => HLeast.out hqk y hy h0 hz
   have HCx := Lib.hid fun W => raCmpA (frOf (qOf ⟨s.most,1⟩ / qOf (frAt l h))) f W hgq hgf
   rw [hfv] at HCx
   have HCz := Lib.hid fun (z : FrT) (hz : frGood z = true) W => raCmpA z (frOf (qOf ⟨s.most,1⟩ / qOf (frAt l h))) W hz hgq
   generalize frOf (qOf ⟨s.most,1⟩ / qOf (frAt l h)) = xq at *
   obtain ⟨xn,xd⟩ := xq
   try simp only at *
   generalize cmpF ⟨xn,xd⟩ f = cx at *
   subst hse
   have hsm : (decide (cx < 0) != decide (cx < 0)) = false := bne_self_eq_false _
   have z0 := HD.out.cell 0;have z1 := HD.out.cell 1;have z2 := HD.out.cell 2;have z3 := HD.out.cell 3;have z4 := HD.out.cell 4;have z5 := HD.out.cell 5;have z6 := HD.out.cell 6;have z7 := HD.out.cell 7;have z8 := HD.out.cell 8;have z9 := HD.out.cell 9;have z10 := HD.out.cell 10;have z11 := HD.out.cell 11;have z12 := HD.out.cell 12
   simp only [List.getElem?_toArray,List.getElem?_cons_succ,List.getElem?_cons_zero] at z0 z1 z2 z3 z4 z5 z6 z7 z8 z9 z10 z11 z12
   go_upto_region 6 with (first | (go_at_call 23;refine (hwk _ HB.out).mono ?_;rintro e w3 ⟨rfl,hb3⟩))
   have hb4 := hb3.alloc hb3.size (.cells #[.int .i64 xn,.int .i64 xd] 23)
   clear z0 z1 z2 z3 z4 z5 z6 z7 z8 z9 z10 z11 z12
   have HD := Lib.hid (HD.out.below hb4 HD.out.lt)
   have HE := Lib.hid (HE.out.below hb4 HE.out.lt)
   have HB := Lib.hid (HB.out.trans (hb4.mono HB.out.size))
   have HX := Lib.hid (Blk.new w3 23 #[.int .i64 xn,.int .i64 xd])
   clear hb3 hb4
   generalize w3.alloc (.cells #[.int .i64 xn,.int .i64 xd] 23) = W3 at *
   generalize w3.heap.size = n6 at HX ⊢
   have z0 := HD.out.cell 0;have z1 := HD.out.cell 1;have z2 := HD.out.cell 2;have z3 := HD.out.cell 3;have z4 := HD.out.cell 4;have z5 := HD.out.cell 5;have z6 := HD.out.cell 6;have z7 := HD.out.cell 7;have z8 := HD.out.cell 8;have z9 := HD.out.cell 9;have z10 := HD.out.cell 10;have z11 := HD.out.cell 11;have z12 := HD.out.cell 12
   simp only [List.getElem?_toArray,List.getElem?_cons_succ,List.getElem?_cons_zero] at z0 z1 z2 z3 z4 z5 z6 z7 z8 z9 z10 z11 z12
   have HEc0 := HE.out.cell 0
   have HEc1 := HE.out.cell 1
   simp only [List.getElem?_toArray,List.getElem?_cons_succ,List.getElem?_cons_zero] at HEc0 HEc1
   clear HNone HSome HLeast hneg hwv hwk hqk hgq
   have hck := HCk2.out _ HB.out
   go_upto_region 9 with (first | (go_at_call 18;refine hck.mono ?_;rintro e w5 ⟨hb5,v5,rfl,hF5⟩))
   clear HEc0 HEc1 z0 z1 z2 z3 z4 z5 z6 z7 z8 z9 z10 z11 z12 hck HCk2
   have HD := Lib.hid (HD.out.below hb5 HD.out.lt)
   have HE := Lib.hid (HE.out.below hb5 HE.out.lt)
   have HX := Lib.hid (HX.out.below hb5 HX.out.lt)
   have HB := Lib.hid (HB.out.trans (hb5.mono HB.out.size))
   clear hb5
   have hcf := containsFuncFind v5 F 30 #[] (fun x => x.kind == 1) entersW1 _ hF5 (fun t _ W _ => by rw [show #[t.val] ++ #[] = #[t.val] by simp];exact lawWeak1 t W)
   rw [HCF.out] at hcf
   clear HCF hF5
   go_upto_region 10 with (first | (go_at_call 29;refine hcf.mono ?_;rintro e w6 ⟨rfl,hb6⟩))
   have HD := Lib.hid (HD.out.below hb6 HD.out.lt)
   have HE := Lib.hid (HE.out.below hb6 HE.out.lt)
   have HX := Lib.hid (HX.out.below hb6 HX.out.lt)
   have HB := Lib.hid (HB.out.trans (hb6.mono HB.out.size))
   clear hb6 hcf
   have HXc0 := HX.out.cell 0
   have HXc1 := HX.out.cell 1
   have HEc0 := HE.out.cell 0
   have HEc1 := HE.out.cell 1
   simp only [List.getElem?_toArray,List.getElem?_cons_succ,List.getElem?_cons_zero] at HXc0 HXc1 HEc0 HEc1
   go_upto_region 18 with (first | (go_at_call 31;refine (HCx.out _).mono ?_;rintro e w7 ⟨rfl,hb7⟩))
   clear HXc0 HXc1 HEc0 HEc1
   have HD := Lib.hid (HD.out.below hb7 HD.out.lt)
   have HE := Lib.hid (HE.out.below hb7 HE.out.lt)
   have HX := Lib.hid (HX.out.below hb7 HX.out.lt)
   have HB := Lib.hid (HB.out.trans (hb7.mono HB.out.size))
   clear hb7 HCx
   have z0 := HD.out.cell 0;have z1 := HD.out.cell 1;have z2 := HD.out.cell 2;have z3 := HD.out.cell 3;have z4 := HD.out.cell 4;have z5 := HD.out.cell 5;have z6 := HD.out.cell 6;have z7 := HD.out.cell 7;have z8 := HD.out.cell 8;have z9 := HD.out.cell 9;have z10 := HD.out.cell 10;have z11 := HD.out.cell 11;have z12 := HD.out.cell 12
   simp only [List.getElem?_toArray,List.getElem?_cons_succ,List.getElem?_cons_zero] at z0 z1 z2 z3 z4 z5 z6 z7 z8 z9 z10 z11 z12
   have hls := HLs2.out _ HB.out
   go_upto_region 19 with (first | (go_at_call 20;refine hls.mono ?_;rintro e w8 ⟨hb8,v8,rfl,hF8⟩))
   clear z0 z1 z2 z3 z4 z5 z6 z7 z8 z9 z10 z11 z12 hls HLs2
   have HD := Lib.hid (HD.out.below hb8 HD.out.lt)
   have HE := Lib.hid (HE.out.below hb8 HE.out.lt)
   have HX := Lib.hid (HX.out.below hb8 HX.out.lt)
   have HB := Lib.hid (HB.out.trans (hb8.mono HB.out.size))
   clear hb8
   obtain ⟨A8,c8,rfl,-,hc8,hcl8⟩ := hF8.open_
   have HCL := Lib.hid hcl8
   clear hcl8 hF8
   have i0 : (0 : Int) ≤ (h : Int) := Int.natCast_nonneg _
   have hll := HLen.out
   have i1 : decide ((l.length : Int) ≤ (h : Int)) = false := decide_eq_false (by omega)
   have i1' : decide (l.length ≤ h) = false := decide_eq_false (by omega)
   have i2 : decide ((h : Int) < 0) = false := decide_eq_false (by omega)
   have HLG := Lib.hid hlg
   go_upto_region 22 with fail
   have HZ0 : Hid (Below w8.heap.size w8 w8) := Below.refl _ _
   clear hlg i0 i1 i1' i2 HLen
   go_loopw [87] (fun ix wr => ∃ k : Nat,k ≤ l.length ∧ ix = .int .i64 k ∧ Hid (Below w8.heap.size w8 wr)) (fun ix _ => l.length - (intOf ix).toNat)
   case atStart => exact ⟨0,Nat.zero_le _,rfl,HZ0⟩
   case round =>
    clear HZ0
    obtain ⟨k,hk,rfl,HT⟩ := hrel
    have k0 : (0 : Int) ≤ (k : Int) := Int.natCast_nonneg _
    by_cases hkl : k < l.length
    ·have k1 : (k : Int) < (l.length : Int) := by omega
     obtain ⟨b1,o1,rfl,hb1,hx⟩ := HCL.out k hkl
     have y0 := (HT.out.cell (p := ⟨b1,o1 + k * 2,none⟩) hb1).trans (hx k hkl).1
     have y1 := (HT.out.cell (p := ⟨b1,o1 + k * 2 + 1,none⟩) hb1).trans (hx k hkl).2
     have hym : l[k] ∈ l := List.getElem_mem hkl
     generalize l[k] = y at *
     have hgy := HLG.out y hym
     obtain ⟨yn,yd⟩ := y
     simp only at y0 y1
     have HK := Lib.hid (Blk.new wr 23 #[.int .i64 yn,.int .i64 yd])
     have hbA := (Below.refl wr.heap.size wr).alloc (Nat.le_refl _) (.cells #[.int .i64 yn,.int .i64 yd] 23)
     have HT := Lib.hid (HT.out.trans (hbA.mono HT.out.size))
     clear hx
     go_upto_region 24 with fail
     generalize wr.alloc (.cells #[.int .i64 yn,.int .i64 yd] 23) = W9 at *
     generalize wr.heap.size = n9 at *
     clear y0 y1 hbA
     have x0 := HK.out.cell 0
     have x1 := HK.out.cell 1
     simp only [List.getElem?_toArray,List.getElem?_cons_succ,List.getElem?_cons_zero] at x0 x1
     by_cases hyp : yn ≤ 0
     ·have d1 : decide (yn ≤ 0) = true := decide_eq_true hyp
      clear hyp hgy hym
      go_wp2_with fail
      go_roundw
      case rel => exact ⟨k + 1,by omega,by go_num,HT⟩
      case measure => simp [intOf];omega
     have d1 : decide (yn ≤ 0) = false := decide_eq_false hyp
     have hfa := fun W => lmFactorTop ⟨yn,yd⟩ s.most W
     rw [factor_pos hgy (show 0 < (FrT.mk yn yd).num by show 0 < yn;omega) hmost] at hfa
     obtain ⟨gx,gy,gz,hg⟩ := fracV_form (qOf ⟨s.most,1⟩ / qOf ⟨yn,yd⟩)
     have HGV := Lib.hid (frac_okW hg)
     have HLy := Lib.hid fun hz => HLe2.out ⟨yn,yd⟩ hym (show 0 < yn by omega) hz
     rw [hg] at hfa
     have z9 := (HT.out.cell (p := ⟨w.heap.size,9,none⟩) HD.out.lt).trans (HD.out.cell 9)
     simp only [List.getElem?_toArray,List.getElem?_cons_succ,List.getElem?_cons_zero] at z9
     generalize fracOk (qOf ⟨s.most,1⟩ / qOf ⟨yn,yd⟩) = gk at *
     generalize frOf (qOf ⟨s.most,1⟩ / qOf ⟨yn,yd⟩) = gq at *
     clear hg hgy hym hyp
     go_upto_region 26 with (first | (go_at_call 12;refine (hfa _).mono ?_;rintro e w10 ⟨rfl,hb10⟩))
     have hb11 := hb10.alloc hb10.size (.cells #[.int .i64 gx,.int .i64 gy] 23)
     have HT := Lib.hid (HT.out.trans (hb11.mono HT.out.size))
     have HY := Lib.hid (Blk.new w10 23 #[.int .i64 gx,.int .i64 gy])
     clear x0 x1 z9 hb10 hb11 hfa
     generalize w10.alloc (.cells #[.int .i64 gx,.int .i64 gy] 23) = W11 at *
     generalize w10.heap.size = n17 at *
     have HBz := Lib.hid (HB.out.trans (HT.out.mono HB.out.size))
     cases hgk : gk with
     | false =>
      have hgz := HGV.out.2 hgk
      subst hgz
      clear HGV HLy hgk
      go_wp2_with fail
      go_ret
      exact ⟨rfl,HBz.out⟩
     | true =>
      obtain ⟨hgg,hge,hgz⟩ := HGV.out.1 hgk
      have hle := HLy.out hgk
      have hcz := fun W => HCz.out ⟨gx,gy⟩ hgg W
      subst hge
      subst hgz
      have d2 : decide (cmpF ⟨gx,gy⟩ ⟨xn,xd⟩ < 0) = false := decide_eq_false (by omega)
      generalize cmpF ⟨gx,gy⟩ ⟨xn,xd⟩ = cz at *
      have q0 := HY.out.cell 0
      have q1 := HY.out.cell 1
      have q2 := (HT.out.cell (p := ⟨n6,0,none⟩) HX.out.lt).trans (HX.out.cell 0)
      have q3 := (HT.out.cell (p := ⟨n6,1,none⟩) HX.out.lt).trans (HX.out.cell 1)
      simp only [List.getElem?_toArray,List.getElem?_cons_succ,List.getElem?_cons_zero] at q0 q1 q2 q3
      clear HGV HLy hgk hle hgg
      go_wp2_with (first | (go_at_call 31;refine (hcz _).mono ?_;rintro e w12 ⟨rfl,hb12⟩))
      have HT := Lib.hid (HT.out.trans (hb12.mono HT.out.size))
      go_roundw
      case rel => exact ⟨k + 1,by omega,by go_num,HT⟩
      case measure => simp [intOf];omega
    ·obtain rfl : k = l.length := by omega
     have HBz := Lib.hid (HB.out.trans (HT.out.mono HB.out.size))
     go_wp2_with fail
     go_ret
     exact ⟨rfl,HBz.out⟩
end Go.Proofs.YtknkhnahflmjiaaGreatDoor
