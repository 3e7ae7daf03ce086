/- Parts of the proof, laid into one text: LimH, LawJust. -/
import Derived.BigQuiet
import Derived.Deep.AppendLies
import Derived.Deep.DeepCutAuto
import Derived.Deep.Draws
import Derived.Deep.LoopGhost
import Derived.Deep.QuietTactic
import Derived.Deep.RegionHeld3
import Derived.Deep.RegionLaw
import Derived.IntWalk
import Derived.Laws.AppendOwnNone
import Derived.Laws.Bits64b
import Derived.Lib.Hide
import Derived.Lib.ItoaNum
import Derived.LoopIn
import Derived.LoopNIn
import Derived.Maps.AppendAt
import Derived.Maps.Own
import Derived.Maps.OwnOps
import Derived.Maps.OwnSet
import Derived.Maps.Views
import Derived.Outline
import Derived.OwnWalkIn
import Derived.PlainAid
import Derived.RangeFuncBox
import Derived.RangeFuncLeaves
import Derived.Shelf.Abstract
import Derived.Shelf.Bits.Mul64
import Derived.Shelf.Small.Bits
import Derived.Shelf.Spec.BitsCarry
import Derived.Shelf.Spec.SlicesGrow
import Derived.Shelf.Strconv.Itoa3
import Derived.StillTail
import Derived.StillTailTactics
import Derived.TacticsInMore
import Derived.Test.YtknkhnahflmjiaaGreatDoorC1
import Derived.Test.YtknkhnahflmjiaaGreatDoorC2
import Derived.Test.YtknkhnahflmjiaaGreatDoorC3
import Derived.Test.YtknkhnahflmjiaaGreatDoorC4
import Derived.Test.YtknkhnahflmjiaaGreatDoorC5
import Derived.Test.YtknkhnahflmjiaaGreatDoorC6
import Derived.Test.YtknkhnahflmjiaaGreatDoorC7
import Derived.Test.YtknkhnahflmjiaaGreatDoorD1
import Derived.Test.YtknkhnahflmjiaaGreatDoorD2
import Derived.Test.YtknkhnahflmjiaaGreatDoorD3
import Derived.Test.YtknkhnahflmjiaaGreatDoorD4
import Derived.Test.YtknkhnahflmjiaaGreatDoorG1
import Derived.Test.YtknkhnahflmjiaaGreatDoorL1
import Derived.Test.YtknkhnahflmjiaaGreatDoorL2
import Derived.Test.YtknkhnahflmjiaaGreatDoorL3
import Derived.Test.YtknkhnahflmjiaaGreatDoorL4
import Derived.Test.YtknkhnahflmjiaaGreatDoorL5
import Derived.Test.YtknkhnahflmjiaaGreatDoorL6
import Derived.Test.YtknkhnahflmjiaaGreatDoorL7
import Derived.Test.YtknkhnahflmjiaaGreatDoorProg
import Derived.WalkKit
import Derived.WalkLawsBesides
import Derived.WalkSpells

namespace Go.Proofs.YtknkhnahflmjiaaGreatDoor
open Go.RowKit Go.Shelf
def factorE (a : FrT) (m : Int) : Int := if frGood a = true then (if 1 ≤ m ∧ m ≤ 67108864 ∧ 0 ≤ a.num then (if a.num = 0 then 16 else 0) else 2) else 1
def factorV (a : FrT) (m : Int) : Value := if factorE a m = 0 then fracV (qOf ⟨m,1⟩ / qOf a) else .tuple #[.agg #[.int .i64 0,.int .i64 0],.int .i64 (factorE a m)]
theorem factorE_zero {a : FrT} {m : Int} (h : factorE a m = 0) : frGood a = true ∧ 0 < a.num ∧ 1 ≤ m ∧ m ≤ 67108864 := by
 unfold factorE at h
 split at h
 ·rename_i h1
  split at h
  ·rename_i h2
   split at h
   ·cases h
   ·rename_i h3
    exact ⟨h1,by omega,h2.1,h2.2.1⟩
  ·cases h
 ·cases h
set_option maxRecDepth 100000 in
set_option maxHeartbeats 2000000 in
theorem lmFactorTop (a : FrT) (m : Int) (w : World) : Calls Tryz.prog 12 #[a.val,.int .i64 m] w fun e w' => e = .returned (factorV a m) ∧ Below w.heap.size w w' := by
 by_cases hz : factorE a m = 0
 ·obtain ⟨h1,h2,h3,h4⟩ := factorE_zero hz
  have h := lmFactor a m w h1 h2 ⟨h3,h4⟩
  unfold factorV
  rw [if_pos hz]
  exact h
 have hva := fun W => raValid a W
 have D0 := (Blk.new w 23 #[.int .i64 a.num,.int .i64 a.den]).alloc (.cells #[.int .i64 0,.int .i64 0] 23)
 have D1 := Blk.new (w.alloc (.cells #[.int .i64 a.num,.int .i64 a.den] 23)) 23 #[.int .i64 0,.int .i64 0]
 have HB := Lib.hid (((Below.refl _ w).alloc (Nat.le_refl _) (.cells #[.int .i64 a.num,.int .i64 a.den] 23)).alloc (by simp) (.cells #[.int .i64 0,.int .i64 0] 23))
 rw [World.size_alloc] at D1
 cases h0 : frGood a with
 | false =>
  have HV : Hid (factorV a m = .tuple #[.agg #[.int .i64 0,.int .i64 0],.int .i64 1]) := by
   have e : factorE a m = 1 := by unfold factorE;rw [if_neg (by rw [h0];decide)]
   unfold Hid factorV
   rw [if_neg hz,e]
  rw [h0] at hva
  generalize factorV a m = fv at *
  clear hz h0
  obtain ⟨an,ad⟩ := a
  simp only at *
  go_enter Tryz.func12,Tryz.ntmps12
  go_wp2_with (first | (go_at_call 49;refine (hva _).mono ?_;rintro e w2 ⟨rfl,hb2⟩;have D0 := D0.below hb2 D0.lt;have D1 := D1.below hb2 D1.lt;have HB := Lib.hid (HB.out.trans (hb2.mono HB.out.size));have y0 := D0.cell 0;have r0 := D1.cell 0;have r1 := D1.cell 1;have f0 := D1.frozen 0;have E1 := D1.set_ 0 (.int .i64 0);have r1' := E1.cell 1;have f1 := E1.frozen 1;have E2 := E1.set_ 1 (.int .i64 0);have p0 := E2.cell 0;have p1 := E2.cell 1;have HBz := Lib.hid ((HB.out.setCell (p := ⟨w.heap.size + 1,0,none⟩) (Nat.le_succ _) (.int .i64 0)).setCell (p := ⟨w.heap.size + 1,1,none⟩) (Nat.le_succ _) (.int .i64 0));simp only [List.setIfInBounds_toArray,List.set_cons_zero,List.set_cons_succ,List.getElem?_toArray,List.getElem?_cons_succ,List.getElem?_cons_zero] at y0 r0 r1 r1' p0 p1))
  refine bodyPost_ret (v := .tuple #[.agg #[.int .i64 0,.int .i64 0],.int .i64 1]) (by simp [results,Tryz.results12,go_sem,p0,p1]) rfl ?_
  exact ⟨by rw [HV.out],HBz.out⟩
 | true =>
  rw [h0] at hva
  by_cases c : 1 ≤ m ∧ m ≤ 67108864 ∧ 0 ≤ a.num
  ·have hn : a.num = 0 := by
    unfold factorE at hz
    rw [if_pos h0,if_pos c] at hz
    split at hz
    ·assumption
    ·exact absurd rfl hz
   have HV : Hid (factorV a m = .tuple #[.agg #[.int .i64 0,.int .i64 0],.int .i64 16]) := by
    have e : factorE a m = 16 := by unfold factorE;rw [if_pos h0,if_pos c,if_pos hn]
    unfold Hid factorV
    rw [if_neg hz,e]
   have d1 : decide (m < 1) = false := decide_eq_false (by omega)
   have d2 : decide (67108864 < m) = false := decide_eq_false (by omega)
   have d3 : decide (a.num < 0) = false := decide_eq_false (by omega)
   have d4 : (a.num == 0) = true := beq_iff_eq.2 hn
   generalize factorV a m = fv at *
   clear hz h0 c
   obtain ⟨an,ad⟩ := a
   simp only at *
   subst hn
   go_enter Tryz.func12,Tryz.ntmps12
   go_wp2_with (first | (go_at_call 49;refine (hva _).mono ?_;rintro e w2 ⟨rfl,hb2⟩;have D0 := D0.below hb2 D0.lt;have D1 := D1.below hb2 D1.lt;have HB := Lib.hid (HB.out.trans (hb2.mono HB.out.size));have y0 := D0.cell 0;have r0 := D1.cell 0;have r1 := D1.cell 1;have f0 := D1.frozen 0;have E1 := D1.set_ 0 (.int .i64 0);have r1' := E1.cell 1;have f1 := E1.frozen 1;have E2 := E1.set_ 1 (.int .i64 0);have p0 := E2.cell 0;have p1 := E2.cell 1;have HBz := Lib.hid ((HB.out.setCell (p := ⟨w.heap.size + 1,0,none⟩) (Nat.le_succ _) (.int .i64 0)).setCell (p := ⟨w.heap.size + 1,1,none⟩) (Nat.le_succ _) (.int .i64 0));simp only [List.setIfInBounds_toArray,List.set_cons_zero,List.set_cons_succ,List.getElem?_toArray,List.getElem?_cons_succ,List.getElem?_cons_zero] at y0 r0 r1 r1' p0 p1))
   refine bodyPost_ret (v := .tuple #[.agg #[.int .i64 0,.int .i64 0],.int .i64 16]) (by simp [results,Tryz.results12,go_sem,p0,p1]) rfl ?_
   exact ⟨by rw [HV.out],HBz.out⟩
  ·have HV : Hid (factorV a m = .tuple #[.agg #[.int .i64 0,.int .i64 0],.int .i64 2]) := by
    have e : factorE a m = 2 := by unfold factorE;rw [if_pos h0,if_neg c]
    unfold Hid factorV
    rw [if_neg hz,e]
   generalize factorV a m = fv at *
   clear hz h0
   obtain ⟨an,ad⟩ := a
   simp only at *
   by_cases c1 : m < 1
   ·have d1 : decide (m < 1) = true := decide_eq_true c1
    clear c
    go_enter Tryz.func12,Tryz.ntmps12
    go_wp2_with (first | (go_at_call 49;refine (hva _).mono ?_;rintro e w2 ⟨rfl,hb2⟩;have D0 := D0.below hb2 D0.lt;have D1 := D1.below hb2 D1.lt;have HB := Lib.hid (HB.out.trans (hb2.mono HB.out.size));have y0 := D0.cell 0;have r0 := D1.cell 0;have r1 := D1.cell 1;have f0 := D1.frozen 0;have E1 := D1.set_ 0 (.int .i64 0);have r1' := E1.cell 1;have f1 := E1.frozen 1;have E2 := E1.set_ 1 (.int .i64 0);have p0 := E2.cell 0;have p1 := E2.cell 1;have HBz := Lib.hid ((HB.out.setCell (p := ⟨w.heap.size + 1,0,none⟩) (Nat.le_succ _) (.int .i64 0)).setCell (p := ⟨w.heap.size + 1,1,none⟩) (Nat.le_succ _) (.int .i64 0));simp only [List.setIfInBounds_toArray,List.set_cons_zero,List.set_cons_succ,List.getElem?_toArray,List.getElem?_cons_succ,List.getElem?_cons_zero] at y0 r0 r1 r1' p0 p1))
    refine bodyPost_ret (v := .tuple #[.agg #[.int .i64 0,.int .i64 0],.int .i64 2]) (by simp [results,Tryz.results12,go_sem,p0,p1]) rfl ?_
    exact ⟨by rw [HV.out],HBz.out⟩
   by_cases c2 : 67108864 < m
   ·have d1 : decide (m < 1) = false := decide_eq_false c1
    have d2 : decide (67108864 < m) = true := decide_eq_true c2
    clear c
    go_enter Tryz.func12,Tryz.ntmps12
    go_wp2_with (first | (go_at_call 49;refine (hva _).mono ?_;rintro e w2 ⟨rfl,hb2⟩;have D0 := D0.below hb2 D0.lt;have D1 := D1.below hb2 D1.lt;have HB := Lib.hid (HB.out.trans (hb2.mono HB.out.size));have y0 := D0.cell 0;have r0 := D1.cell 0;have r1 := D1.cell 1;have f0 := D1.frozen 0;have E1 := D1.set_ 0 (.int .i64 0);have r1' := E1.cell 1;have f1 := E1.frozen 1;have E2 := E1.set_ 1 (.int .i64 0);have p0 := E2.cell 0;have p1 := E2.cell 1;have HBz := Lib.hid ((HB.out.setCell (p := ⟨w.heap.size + 1,0,none⟩) (Nat.le_succ _) (.int .i64 0)).setCell (p := ⟨w.heap.size + 1,1,none⟩) (Nat.le_succ _) (.int .i64 0));simp only [List.setIfInBounds_toArray,List.set_cons_zero,List.set_cons_succ,List.getElem?_toArray,List.getElem?_cons_succ,List.getElem?_cons_zero] at y0 r0 r1 r1' p0 p1))
    refine bodyPost_ret (v := .tuple #[.agg #[.int .i64 0,.int .i64 0],.int .i64 2]) (by simp [results,Tryz.results12,go_sem,p0,p1]) rfl ?_
    exact ⟨by rw [HV.out],HBz.out⟩
   have d1 : decide (m < 1) = false := decide_eq_false c1
   have d2 : decide (67108864 < m) = false := decide_eq_false c2
   have d3 : decide (an < 0) = true := decide_eq_true (by omega)
   clear c c1 c2
   go_enter Tryz.func12,Tryz.ntmps12
   go_wp2_with (first | (go_at_call 49;refine (hva _).mono ?_;rintro e w2 ⟨rfl,hb2⟩;have D0 := D0.below hb2 D0.lt;have D1 := D1.below hb2 D1.lt;have HB := Lib.hid (HB.out.trans (hb2.mono HB.out.size));have y0 := D0.cell 0;have r0 := D1.cell 0;have r1 := D1.cell 1;have f0 := D1.frozen 0;have E1 := D1.set_ 0 (.int .i64 0);have r1' := E1.cell 1;have f1 := E1.frozen 1;have E2 := E1.set_ 1 (.int .i64 0);have p0 := E2.cell 0;have p1 := E2.cell 1;have HBz := Lib.hid ((HB.out.setCell (p := ⟨w.heap.size + 1,0,none⟩) (Nat.le_succ _) (.int .i64 0)).setCell (p := ⟨w.heap.size + 1,1,none⟩) (Nat.le_succ _) (.int .i64 0));simp only [List.setIfInBounds_toArray,List.set_cons_zero,List.set_cons_succ,List.getElem?_toArray,List.getElem?_cons_succ,List.getElem?_cons_zero] at y0 r0 r1 r1' p0 p1))
   refine bodyPost_ret (v := .tuple #[.agg #[.int .i64 0,.int .i64 0],.int .i64 2]) (by simp [results,Tryz.results12,go_sem,p0,p1]) rfl ?_
   exact ⟨by rw [HV.out],HBz.out⟩
theorem factor_form (a : FrT) (m : Int) : ∃ x y z : Int,factorV a m = .tuple #[.agg #[.int .i64 x,.int .i64 y],.int .i64 z] ∧ (z ≠ 0 → x = 0 ∧ y = 0) ∧ (z = 0 → frGood a = true ∧ 0 < a.num ∧ 1 ≤ m ∧ m ≤ 67108864 ∧ fracOk (qOf ⟨m,1⟩ / qOf a) = true ∧ frOf (qOf ⟨m,1⟩ / qOf a) = ⟨x,y⟩) := by
 unfold factorV
 by_cases hz : factorE a m = 0
 ·rw [if_pos hz]
  obtain ⟨h1,h2,h3,h4⟩ := factorE_zero hz
  cases hk : fracOk (qOf ⟨m,1⟩ / qOf a) with
  | true => exact ⟨_,_,_,fracV_ok hk,fun h => absurd rfl h,fun _ => ⟨h1,h2,h3,h4,rfl,rfl⟩⟩
  | false => exact ⟨_,_,_,fracV_no hk,fun _ => ⟨rfl,rfl⟩,fun h => by cases h⟩
 ·rw [if_neg hz]
  exact ⟨_,_,_,rfl,fun _ => ⟨rfl,rfl⟩,fun h => absurd h hz⟩
end Go.Proofs.YtknkhnahflmjiaaGreatDoor

namespace Go.Proofs.YtknkhnahflmjiaaGreatDoor
open Go.RowKit Go.Shelf
theorem fr_zero_add {a : FrT} (h : 0 < qOf a) : 0 < qOf a + qOf a := by grind
theorem num_of_pos {t : FrT} (h : frGood t = true) (h2 : 0 < qOf t) : 0 < t.num := by
 have h3 := num_pos23.2 h2
 rw [(q_parts h).1] at h3
 exact h3
set_option maxRecDepth 100000 in
set_option maxHeartbeats 4000000 in
theorem lawJust (a : FrT) (m : Int) (w : World) : Calls Tryz.prog 4 #[a.val,.int .i64 m] w fun e w' => e = .returned (.bool true) ∧ Below w.heap.size w w' := by
 have HAw := Lib.hid fun W => lawAwake23 W
 obtain ⟨x,y,z,hf,hne,hok⟩ := factor_form a m
 have hfac := fun W => lmFactorTop a m W
 rw [hf] at hfac
 have HFac := Lib.hid hfac
 have HMu := Lib.hid fun (h : z = 0) W => raMul ⟨x,y⟩ a W (by obtain ⟨-,-,-,-,h5,h6⟩ := hok h;rw [← h6];exact good_q h5) (hok h).1
 have HAd := Lib.hid fun (h : z = 0) W => raAdd a a W (hok h).1 (hok h).1
 have HMv : Hid (z = 0 → fracV (qOf ⟨x,y⟩ * qOf a) = .tuple #[.agg #[.int .i64 m,.int .i64 1],.int .i64 0]) := fun h => by
  obtain ⟨h1,h2,h3,h4,h5,h6⟩ := hok h
  have e : qOf ⟨x,y⟩ * qOf a = qOf ⟨m,1⟩ := by rw [← h6,q_fr];exact fac_back (q_pos h1 h2)
  have hg : frGood ⟨m,1⟩ = true := good_one (by omega) (by omega)
  have hq := fr_q hg
  have hk : fracOk (qOf ⟨m,1⟩) = true := by
   obtain ⟨p1,p2⟩ := q_parts hg
   unfold fracOk
   rw [p1,p2,Bool.and_eq_true,decide_eq_true_iff,decide_eq_true_iff]
   refine ⟨?_,by show (1 : Int).natAbs ≤ _;decide⟩
   show m.natAbs ≤ _
   omega
  rw [e,fracV_ok hk]
  have e1 : (qOf ⟨m,1⟩).num = m := by have := congrArg FrT.num hq;exact this
  have e2 : ((qOf ⟨m,1⟩).den : Int) = 1 := by have := congrArg FrT.den hq;exact this
  rw [e1,e2]
 obtain ⟨tx,ty,tz,ht⟩ := fracV_form (qOf a + qOf a)
 have HT := Lib.hid (frac_okV ht)
 have HTz : Hid (fracOk (qOf a + qOf a) = false ∨ fracOk (qOf a + qOf a) = true) := by cases fracOk (qOf a + qOf a) <;> simp [Hid]
 have HHf := Lib.hid fun (h : z = 0) (hk : fracOk (qOf a + qOf a) = true) W => lmFactorTop ⟨tx,ty⟩ m W
 have HHv : Hid (z = 0 → fracOk (qOf a + qOf a) = true → factorV ⟨tx,ty⟩ m = fracV (qOf ⟨m,1⟩ / (qOf a + qOf a))) := fun h hk => by
  obtain ⟨h1,h2,h3,h4,h5,h6⟩ := hok h
  obtain ⟨g1,g2,-⟩ := (frac_okV ht).1 hk
  have hq : qOf ⟨tx,ty⟩ = qOf a + qOf a := by rw [← g2,q_fr]
  have hn := num_of_pos g1 (by rw [hq];exact fr_zero_add (q_pos h1 h2))
  have hE : factorE ⟨tx,ty⟩ m = 0 := by
   unfold factorE
   rw [if_pos g1,if_pos ⟨h3,h4,Int.le_of_lt hn⟩,if_neg (by omega)]
  unfold factorV
  rw [if_pos hE,hq]
 obtain ⟨hx,hy,hz,hh⟩ := fracV_form (qOf ⟨m,1⟩ / (qOf a + qOf a))
 have HH := Lib.hid (frac_okV hh)
 have HBa := Lib.hid fun (h : z = 0) (hk : fracOk (qOf ⟨m,1⟩ / (qOf a + qOf a)) = true) W => raAdd ⟨hx,hy⟩ ⟨hx,hy⟩ W (HH.out.1 hk).1 (HH.out.1 hk).1
 have HBv : Hid (z = 0 → fracOk (qOf ⟨m,1⟩ / (qOf a + qOf a)) = true → fracV (qOf ⟨hx,hy⟩ + qOf ⟨hx,hy⟩) = .tuple #[.agg #[.int .i64 x,.int .i64 y],.int .i64 0]) := fun h hk => by
  obtain ⟨h1,h2,h3,h4,h5,h6⟩ := hok h
  have hq : qOf ⟨hx,hy⟩ = qOf ⟨m,1⟩ / (qOf a + qOf a) := by rw [← (HH.out.1 hk).2.1,q_fr]
  rw [hq,half_twice (q_pos h1 h2),fracV_ok h5]
  have e1 : (qOf ⟨m,1⟩ / qOf a).num = x := congrArg FrT.num h6
  have e2 : ((qOf ⟨m,1⟩ / qOf a).den : Int) = y := congrArg FrT.den h6
  rw [e1,e2]
 have HNe := Lib.hid hne
 generalize fracOk (qOf a + qOf a) = tk at *
 generalize fracOk (qOf ⟨m,1⟩ / (qOf a + qOf a)) = hk at *
 have HMu2 : Hid (z = 0 → ∀ W,Calls Tryz.prog 14 #[.agg #[.int .i64 x,.int .i64 y],a.val] W fun e w' => e = .returned (.tuple #[.agg #[.int .i64 m,.int .i64 1],.int .i64 0]) ∧ Below W.heap.size W w') := fun h W => by rw [← HMv.out h];exact HMu.out h W
 have HAd2 : Hid (z = 0 → ∀ W,Calls Tryz.prog 16 #[a.val,a.val] W fun e w' => e = .returned (.tuple #[.agg #[.int .i64 tx,.int .i64 ty],.int .i64 tz]) ∧ Below W.heap.size W w') := fun h W => by rw [← ht];exact HAd.out h W
 have HHf2 : Hid (z = 0 → tk = true → ∀ W,Calls Tryz.prog 12 #[.agg #[.int .i64 tx,.int .i64 ty],.int .i64 m] W fun e w' => e = .returned (.tuple #[.agg #[.int .i64 hx,.int .i64 hy],.int .i64 hz]) ∧ Below W.heap.size W w') := fun h h2 W => by rw [← hh,← HHv.out h h2];exact HHf.out h h2 W
 have HBa2 : Hid (z = 0 → hk = true → ∀ W,Calls Tryz.prog 16 #[.agg #[.int .i64 hx,.int .i64 hy],.agg #[.int .i64 hx,.int .i64 hy]] W fun e w' => e = .returned (.tuple #[.agg #[.int .i64 x,.int .i64 y],.int .i64 0]) ∧ Below W.heap.size W w') := fun h h2 W => by rw [← HBv.out h h2];exact HBa.out h h2 W
 clear HMu HMv HAd HHf HHv HBa HBv hf hne hok hfac ht hh HTz
 obtain ⟨an,ad⟩ := a
 try simp only at *
 have HA := Lib.hid (Blk.new w 23 #[.int .i64 an,.int .i64 ad])
 have HB := Lib.hid ((Below.refl _ w).alloc (Nat.le_refl _) (.cells #[.int .i64 an,.int .i64 ad] 23))
 go_enter Tryz.func4,Tryz.ntmps4
 go_upto_region 1 with fail
 generalize w.alloc (.cells #[.int .i64 an,.int .i64 ad] 23) = W0 at *
 generalize w.heap.size = n0 at HA ⊢
 go_upto_region 3 with (first | (go_at_call 11;refine (HAw.out _).mono ?_;rintro e w1 ⟨rfl,hb_w1⟩))
 have HA := Lib.hid (HA.out.below hb_w1 HA.out.lt)
 have HB := Lib.hid (HB.out.trans (hb_w1.mono HB.out.size))
 clear hb_w1 HAw
 have HAc0 := HA.out.cell 0
 have HAc1 := HA.out.cell 1
 simp only [List.getElem?_toArray,List.getElem?_cons_succ,List.getElem?_cons_zero] at HAc0 HAc1
 go_upto_region 4 with (first | (go_at_call 12;refine (HFac.out _).mono ?_;rintro e w2 ⟨rfl,hb_w2⟩))
 have hb9 := hb_w2.alloc hb_w2.size (.cells #[.int .i64 x,.int .i64 y] 23)
 clear HAc0 HAc1
 have HA := Lib.hid (HA.out.below hb9 HA.out.lt)
 have HB := Lib.hid (HB.out.trans (hb9.mono HB.out.size))
 have HX := Lib.hid (Blk.new w2 23 #[.int .i64 x,.int .i64 y])
 clear hb9 hb_w2
 generalize w2.alloc (.cells #[.int .i64 x,.int .i64 y] 23) = W_w2 at *
 generalize w2.heap.size = n1 at HX ⊢
 by_cases c : z = 0
 rotate_left
 ·have c2 : (z != 0) = true := bne_iff_ne.2 c
  obtain ⟨rfl,rfl⟩ := HNe.out c
  clear c HNe HMu2 HAd2 HHf2 HBa2 HT HH
  have HXc0 := HX.out.cell 0
  have HXc1 := HX.out.cell 1
  simp only [List.getElem?_toArray,List.getElem?_cons_succ,List.getElem?_cons_zero] at HXc0 HXc1
  go_wp2_with fail
  go_ret
  exact ⟨rfl,HB.out⟩
 subst c
 have HMu := Lib.hid (HMu2.out rfl)
 have HAd := Lib.hid (HAd2.out rfl)
 clear HNe HMu2 HAd2
 have HAc0 := HA.out.cell 0
 have HAc1 := HA.out.cell 1
 have HXc0 := HX.out.cell 0
 have HXc1 := HX.out.cell 1
 simp only [List.getElem?_toArray,List.getElem?_cons_succ,List.getElem?_cons_zero] at HAc0 HAc1 HXc0 HXc1
 go_upto_region 7 with (first | (go_at_call 14;refine (HMu.out _).mono ?_;rintro e w3 ⟨rfl,hb_w3⟩))
 have hb9 := hb_w3.alloc hb_w3.size (.cells #[.int .i64 m,.int .i64 1] 23)
 clear HAc0 HAc1 HXc0 HXc1
 have HA := Lib.hid (HA.out.below hb9 HA.out.lt)
 have HX := Lib.hid (HX.out.below hb9 HX.out.lt)
 have HB := Lib.hid (HB.out.trans (hb9.mono HB.out.size))
 have HY := Lib.hid (Blk.new w3 23 #[.int .i64 m,.int .i64 1])
 clear hb9 hb_w3
 generalize w3.alloc (.cells #[.int .i64 m,.int .i64 1] 23) = W_w3 at *
 generalize w3.heap.size = n2 at HY ⊢
 have HYc0 := HY.out.cell 0
 have HYc1 := HY.out.cell 1
 simp only [List.getElem?_toArray,List.getElem?_cons_succ,List.getElem?_cons_zero] at HYc0 HYc1
 have u0 := HeldB.cell HYc0
 have u1 := HeldB.cell HYc1
 have mm : (m != m) = false := bne_self_eq_false m
 clear HYc0 HYc1
 refine wp_region_grow 7 (fun jx => if jx = 5 then some (gC23 (.agg #[.int .i64 m,.int .i64 1])) else none) (by kernel_rfl) (by kernel_rfl) ?_
 simp only [List.take_succ_cons,List.take_zero,List.drop_succ_cons,List.drop_zero]
 first | refine wpG_quiet1W (by first | rfl | go_simp) rfl rfl ?_ | refine wpG_pickW rfl (by first | rfl | go_simp) rfl ?_
 go_big_quiet_step (fail)
 refine wpQuiet_nil ?_
 first | refine wpG_quiet1W (by first | rfl | go_simp) rfl rfl ?_ | refine wpG_pickW rfl (by first | rfl | go_simp) rfl ?_
 go_big_quiet_step (fail)
 refine wpQuiet_nil ?_
 first | refine wpG_quiet1W (by first | rfl | go_simp) rfl rfl ?_ | refine wpG_pickW rfl (by first | rfl | go_simp) rfl ?_
 go_big_quiet_step (fail)
 refine wpQuiet_nil ?_
 first | refine wpG_quiet1W (by first | rfl | go_simp) rfl rfl ?_ | refine wpG_pickW rfl (by first | rfl | go_simp) rfl ?_
 go_big_quiet_step (fail)
 refine wpQuiet_nil ?_
 first | refine wpG_quiet1W (by first | rfl | go_simp) rfl rfl ?_ | refine wpG_pickW rfl (by first | rfl | go_simp) rfl ?_
 go_big_quiet_step (fail)
 refine wpQuiet_nil ?_
 refine wpG_callW (by first | rfl | go_simp) rfl (fun w1 hb1 _ => ⟨15,#[.int .i64 m],by go_simp,whole23_g m w1⟩) ?_
 rintro _ rfl
 simp only [Act.put,List.setIfInBounds_toArray,List.set_cons_zero,List.set_cons_succ]
 first | refine wpG_quiet1W (by first | rfl | go_simp) rfl rfl ?_ | refine wpG_pickW rfl (by first | rfl | go_simp) rfl ?_
 go_big_quiet_step (fail)
 refine wpQuiet_nil ?_
 refine wpG_nil ?_
 intro w8 hb8 hF
 clear hF
 have HA := Lib.hid (HA.out.below hb8 HA.out.lt)
 have HX := Lib.hid (HX.out.below hb8 HX.out.lt)
 have HB := Lib.hid (HB.out.trans (hb8.mono HB.out.size))
 clear hb8 u0 u1
 have HAc0 := HA.out.cell 0
 have HAc1 := HA.out.cell 1
 simp only [List.getElem?_toArray,List.getElem?_cons_succ,List.getElem?_cons_zero] at HAc0 HAc1
 go_upto_region 10 with (first | (go_at_call 16;refine (HAd.out _).mono ?_;rintro e w4 ⟨rfl,hb_w4⟩))
 have hb9 := hb_w4.alloc hb_w4.size (.cells #[.int .i64 tx,.int .i64 ty] 23)
 clear HAc0 HAc1
 have HA := Lib.hid (HA.out.below hb9 HA.out.lt)
 have HX := Lib.hid (HX.out.below hb9 HX.out.lt)
 have HB := Lib.hid (HB.out.trans (hb9.mono HB.out.size))
 have HTw := Lib.hid (Blk.new w4 23 #[.int .i64 tx,.int .i64 ty])
 clear hb9 hb_w4
 generalize w4.alloc (.cells #[.int .i64 tx,.int .i64 ty] 23) = W_w4 at *
 generalize w4.heap.size = n3 at HTw ⊢
 cases htk : tk with
 | false =>
  have htz := HT.out.2 htk
  subst htz
  clear HT HH HHf2 HBa2 htk
  go_wp2_with fail
  go_ret
  exact ⟨rfl,HB.out⟩
 | true =>
  obtain ⟨-,-,htz⟩ := HT.out.1 htk
  have HHf := Lib.hid (HHf2.out (by first | rfl | trivial) htk)
  subst htz
  clear HT htk HHf2
  have HTwc0 := HTw.out.cell 0
  have HTwc1 := HTw.out.cell 1
  simp only [List.getElem?_toArray,List.getElem?_cons_succ,List.getElem?_cons_zero] at HTwc0 HTwc1
  go_upto_region 13 with (first | (go_at_call 12;refine (HHf.out _).mono ?_;rintro e w5 ⟨rfl,hb_w5⟩))
  have hb9 := hb_w5.alloc hb_w5.size (.cells #[.int .i64 hx,.int .i64 hy] 23)
  clear HTwc0 HTwc1
  have HA := Lib.hid (HA.out.below hb9 HA.out.lt)
  have HX := Lib.hid (HX.out.below hb9 HX.out.lt)
  have HTw := Lib.hid (HTw.out.below hb9 HTw.out.lt)
  have HB := Lib.hid (HB.out.trans (hb9.mono HB.out.size))
  have HHa := Lib.hid (Blk.new w5 23 #[.int .i64 hx,.int .i64 hy])
  clear hb9 hb_w5
  generalize w5.alloc (.cells #[.int .i64 hx,.int .i64 hy] 23) = W_w5 at *
  generalize w5.heap.size = n4 at HHa ⊢
  cases hhk : hk with
  | false =>
   have hhz := HH.out.2 hhk
   subst hhz
   clear HH HBa2 hhk
   go_wp2_with fail
   go_ret
   exact ⟨rfl,HB.out⟩
  | true =>
   obtain ⟨-,-,hhz⟩ := HH.out.1 hhk
   have HBa := Lib.hid (HBa2.out (by first | rfl | trivial) hhk)
   subst hhz
   clear HH hhk HBa2
   have HHac0 := HHa.out.cell 0
   have HHac1 := HHa.out.cell 1
   simp only [List.getElem?_toArray,List.getElem?_cons_succ,List.getElem?_cons_zero] at HHac0 HHac1
   go_upto_region 16 with (first | (go_at_call 16;refine (HBa.out _).mono ?_;rintro e w6 ⟨rfl,hb_w6⟩))
   have hb9 := hb_w6.alloc hb_w6.size (.cells #[.int .i64 x,.int .i64 y] 23)
   clear HHac0 HHac1
   have HX := Lib.hid (HX.out.below hb9 HX.out.lt)
   have HHa := Lib.hid (HHa.out.below hb9 HHa.out.lt)
   have HB := Lib.hid (HB.out.trans (hb9.mono HB.out.size))
   have HBk := Lib.hid (Blk.new w6 23 #[.int .i64 x,.int .i64 y])
   clear hb9 hb_w6
   generalize w6.alloc (.cells #[.int .i64 x,.int .i64 y] 23) = W_w6 at *
   generalize w6.heap.size = n5 at HBk ⊢
   have HXc0 := HX.out.cell 0
   have HXc1 := HX.out.cell 1
   have HBkc0 := HBk.out.cell 0
   have HBkc1 := HBk.out.cell 1
   simp only [List.getElem?_toArray,List.getElem?_cons_succ,List.getElem?_cons_zero] at HXc0 HXc1 HBkc0 HBkc1
   go_wp2_with fail
   go_ret
   exact ⟨rfl,HB.out⟩
end Go.Proofs.YtknkhnahflmjiaaGreatDoor
