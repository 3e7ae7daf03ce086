/- Parts of the proof, laid into one text: CmpN, LawWeak. -/
import Derived.BigQuiet
import Derived.Deep.AppendLies
import Derived.Deep.DeepCutAuto
import Derived.Deep.Draws
import Derived.Deep.LoopGhost
import Derived.Deep.QuietTactic
import Derived.Deep.RegionHeld3
import Derived.Deep.RegionLaw
import Derived.IntWalk
import Derived.Laws.AppendOwnNone
import Derived.Laws.Bits64b
import Derived.Lib.Hide
import Derived.Lib.ItoaNum
import Derived.LoopIn
import Derived.LoopNIn
import Derived.Maps.AppendAt
import Derived.Maps.Own
import Derived.Maps.OwnOps
import Derived.Maps.OwnSet
import Derived.Maps.Views
import Derived.Outline
import Derived.OwnWalkIn
import Derived.PlainAid
import Derived.RangeFuncBox
import Derived.RangeFuncLeaves
import Derived.Shelf.Abstract
import Derived.Shelf.Bits.Mul64
import Derived.Shelf.Small.Bits
import Derived.Shelf.Spec.BitsCarry
import Derived.Shelf.Spec.SlicesGrow
import Derived.Shelf.Strconv.Itoa3
import Derived.StillTail
import Derived.StillTailTactics
import Derived.TacticsInMore
import Derived.Test.YtknkhnahflmjiaaGreatDoorB1
import Derived.Test.YtknkhnahflmjiaaGreatDoorE1
import Derived.Test.YtknkhnahflmjiaaGreatDoorE2
import Derived.Test.YtknkhnahflmjiaaGreatDoorE3
import Derived.Test.YtknkhnahflmjiaaGreatDoorE4
import Derived.Test.YtknkhnahflmjiaaGreatDoorE5
import Derived.Test.YtknkhnahflmjiaaGreatDoorE6
import Derived.Test.YtknkhnahflmjiaaGreatDoorE7
import Derived.Test.YtknkhnahflmjiaaGreatDoorF1
import Derived.Test.YtknkhnahflmjiaaGreatDoorF2
import Derived.Test.YtknkhnahflmjiaaGreatDoorF3
import Derived.Test.YtknkhnahflmjiaaGreatDoorF4
import Derived.Test.YtknkhnahflmjiaaGreatDoorH1
import Derived.Test.YtknkhnahflmjiaaGreatDoorH2
import Derived.Test.YtknkhnahflmjiaaGreatDoorH3
import Derived.Test.YtknkhnahflmjiaaGreatDoorH4
import Derived.Test.YtknkhnahflmjiaaGreatDoorH5
import Derived.Test.YtknkhnahflmjiaaGreatDoorH6
import Derived.Test.YtknkhnahflmjiaaGreatDoorH7
import Derived.Test.YtknkhnahflmjiaaGreatDoorProg
import Derived.WalkKit
import Derived.WalkLawsBesides
import Derived.WalkSpells

namespace Go.Proofs.YtknkhnahflmjiaaGreatDoor
open Go.RowKit Go.Shelf
set_option maxRecDepth 100000 in
set_option maxHeartbeats 4000000 in
theorem raCmpN (a b : FrT) (w : World) (ha : frGood a = true) (hb : frGood b = true) (hb0 : b.num < 0) :
  Calls Tryz.prog 31 #[a.val,b.val] w fun e w' => e = .returned (.tuple #[.int .i64 (cmpF a b),.int .i64 0]) ∧ Below w.heap.size w w' := by
 have hva := fun W => raValid a W
 have hvb := fun W => raValid b W
 rw [ha] at hva
 rw [hb] at hvb
 have HN := Lib.hid fun (h0 : a.num < 0) => cmp_both ha hb h0 hb0
 have HG := Lib.hid fun (h0 : 0 ≤ a.num) => cmp_pos ha hb h0 hb0
 obtain ⟨a1,a2,a3,a4⟩ := good_bd ha
 obtain ⟨b1,b2,b3,b4⟩ := good_bd hb
 have wa : IntKind.u64.wrap a.den = ((a.den.natAbs : Nat) : Int) := by show a.den % 18446744073709551616 = _;omega
 have wb : IntKind.u64.wrap b.den = ((b.den.natAbs : Nat) : Int) := by show b.den % 18446744073709551616 = _;omega
 have hSa := fun W => size_g (n := a.num) W a3 a4
 have hSb := fun W => size_g (n := b.num) W b3 b4
 have hP1 := fun W => prod_g (x := a.num.natAbs) (y := b.den.natAbs) W (by omega) (by omega)
 have hP2 := fun W => prod_g (x := b.num.natAbs) (y := a.den.natAbs) W (by omega) (by omega)
 have dbn : decide (b.num < 0) = true := decide_eq_true hb0
 clear ha hb a1 a2 a3 a4 b1 b2 b3 b4
 have HV : Hid (cmpF a b = if a.num * b.den < b.num * a.den then -1 else if b.num * a.den < a.num * b.den then 1 else 0) := rfl
 generalize cmpF a b = cr at *
 obtain ⟨an,ad⟩ := a
 obtain ⟨bn,bd⟩ := b
 simp only at *
 have HSa := Lib.hid hSa
 have HSb := Lib.hid hSb
 have HP1 := Lib.hid hP1
 have HP2 := Lib.hid hP2
 clear hSa hSb hP1 hP2
 have D0 := (Blk.new w 23 #[.int .i64 an,.int .i64 ad]).alloc (.cells #[.int .i64 bn,.int .i64 bd] 23)
 have D1 := Blk.new (w.alloc (.cells #[.int .i64 an,.int .i64 ad] 23)) 23 #[.int .i64 bn,.int .i64 bd]
 rw [World.size_alloc] at D1
 have hB := ((Below.refl _ w).alloc (Nat.le_refl _) (.cells #[.int .i64 an,.int .i64 ad] 23)).alloc (by simp) (.cells #[.int .i64 bn,.int .i64 bd] 23)
 have hs : ((w.alloc (.cells #[.int .i64 an,.int .i64 ad] 23)).alloc (.cells #[.int .i64 bn,.int .i64 bd] 23)).heap.size = w.heap.size + 1 + 1 := by simp
 go_enter Tryz.func31,Tryz.ntmps31
 go_wp2_with fail
 generalize (w.alloc (.cells #[.int .i64 an,.int .i64 ad] 23)).alloc (.cells #[.int .i64 bn,.int .i64 bd] 23) = W1 at *
 refine (hva W1).mono ?_
 rintro e w2 ⟨rfl,hb2⟩
 have D0 := D0.below hb2 D0.lt
 have D1 := D1.below hb2 D1.lt
 have hB := hB.trans (hb2.mono hB.size)
 have hs : w.heap.size + 1 < w2.heap.size := by have := hb2.size;omega
 have u0 := D1.cell 0
 have u1 := D1.cell 1
 simp only [List.getElem?_toArray,List.getElem?_cons_succ,List.getElem?_cons_zero] at u0 u1
 go_wp2_with fail
 refine (hvb w2).mono ?_
 rintro e w3 ⟨rfl,hb3⟩
 clear u0 u1 hva hvb
 have D0 := Lib.hid (D0.below hb3 D0.lt)
 have D1 := Lib.hid (D1.below hb3 D1.lt)
 have HB := Lib.hid (hB.trans (hb3.mono hB.size))
 have Hs : Hid (w.heap.size + 1 < w3.heap.size) := by have := hb3.size;unfold Hid;omega
 clear hb2 hb3 hB hs
 go_wp2_with (exact Go.WalkKit.wp_stop)
 have y0 := D0.out.cell 0
 have y1 := D0.out.cell 1
 have y2 := D1.out.cell 0
 have y3 := D1.out.cell 1
 simp only [List.getElem?_toArray,List.getElem?_cons_succ,List.getElem?_cons_zero] at y0 y1 y2 y3
 have u0 := HeldB.cell y0
 have u1 := HeldB.cell y1
 have u2 := HeldB.cell y2
 have u3 := HeldB.cell y3
 clear y0 y1 y2 y3
 refine wp_region_apart 16 (fun jx => if jx = 2 then some (gV (.int .u64 (an.natAbs : Nat))) else if jx = 6 then some (gV (wideV (an.natAbs * bd.natAbs))) else if jx = 9 then some (gV (.int .u64 (bn.natAbs : Nat))) else if jx = 13 then some (gV (wideV (bn.natAbs * ad.natAbs))) else if jx = 14 then some (gWd w3.heap.size) else if jx = 15 then some (gWd w3.heap.size) else none) [6,7] (by kernel_rfl) (by kernel_rfl) (by kernel_rfl) (two_none rfl rfl) ?_
 simp only [List.take_succ_cons,List.take_zero,List.drop_succ_cons,List.drop_zero]
 refine wpG_quiet 2 (by kernel_rfl) (by rfl) (by decide) ?_
 simp only [List.take_succ_cons,List.take_zero,List.drop_succ_cons,List.drop_zero]
 repeat (go_big_quiet_step (fail))
 refine wpQuiet_nil ?_
 refine wpG_call rfl rfl (fun w1 _ _ => ⟨55,#[.int .i64 an],by go_simp,HSa.out w1⟩) ?_
 rintro _ rfl
 simp only [Act.put,List.setIfInBounds_toArray,List.set_cons_zero,List.set_cons_succ]
 refine wpG_quiet 3 (by kernel_rfl) (by rfl) (by decide) ?_
 simp only [List.take_succ_cons,List.take_zero,List.drop_succ_cons,List.drop_zero]
 repeat (go_big_quiet_step (fail))
 refine wpQuiet_nil ?_
 refine wpG_call rfl rfl (fun w1 _ _ => ⟨56,#[.int .u64 (an.natAbs : Nat),.int .u64 (bd.natAbs : Nat)],by go_simp,HP1.out w1⟩) ?_
 rintro _ rfl
 simp only [Act.put,List.setIfInBounds_toArray,List.set_cons_zero,List.set_cons_succ]
 refine wpG_quiet 2 (by kernel_rfl) (by rfl) (by decide) ?_
 simp only [List.take_succ_cons,List.take_zero,List.drop_succ_cons,List.drop_zero]
 repeat (go_big_quiet_step (fail))
 refine wpQuiet_nil ?_
 refine wpG_call rfl rfl (fun w1 _ _ => ⟨55,#[.int .i64 bn],by go_simp,HSb.out w1⟩) ?_
 rintro _ rfl
 simp only [Act.put,List.setIfInBounds_toArray,List.set_cons_zero,List.set_cons_succ]
 refine wpG_quiet 3 (by kernel_rfl) (by rfl) (by decide) ?_
 simp only [List.take_succ_cons,List.take_zero,List.drop_succ_cons,List.drop_zero]
 repeat (go_big_quiet_step (fail))
 refine wpQuiet_nil ?_
 refine wpG_call rfl rfl (fun w1 _ _ => ⟨56,#[.int .u64 (bn.natAbs : Nat),.int .u64 (ad.natAbs : Nat)],by go_simp,HP2.out w1⟩) ?_
 rintro _ rfl
 simp only [Act.put,List.setIfInBounds_toArray,List.set_cons_zero,List.set_cons_succ]
 refine wpG_new rfl rfl (fun w1 hb1 _ => gWd_new hb1.size (by go_simp)) ?_
 rintro _ ⟨g6,rfl⟩
 simp only [Act.put,List.setIfInBounds_toArray,List.set_cons_zero,List.set_cons_succ]
 refine wpG_new rfl rfl (fun w1 hb1 _ => gWd_new hb1.size (by go_simp)) ?_
 rintro _ ⟨g7,rfl⟩
 simp only [Act.put,List.setIfInBounds_toArray,List.set_cons_zero,List.set_cons_succ]
 refine wpG_nil ?_
 intro w8 hb8 hF hA
 have h6 : AtWide w3.heap.size (.pointer (some ⟨g6,0,none⟩)) w8 := hF 6
 have h7 : AtWide w3.heap.size (.pointer (some ⟨g7,0,none⟩)) w8 := hF 7
 have h67 : g7 ≠ g6 := fun e => (hA 6 (by simp) g6 rfl).2 7 (by simp) (by decide) (by rw [e];rfl)
 have D08 := D0.out.below hb8 D0.out.lt
 have D18 := D1.out.below hb8 D1.out.lt
 have B8 := HB.out.trans (hb8.mono HB.out.size)
 obtain ⟨_,e6,l6,b6⟩ := h6
 obtain ⟨_,e7,l7,b7⟩ := h7
 injection e6 with e6
 injection e6 with e6
 injection e6 with e6 _ _
 injection e7 with e7
 injection e7 with e7
 injection e7 with e7 _ _
 subst e6 e7
 have hs3 := Hs.out
 obtain ⟨B9,p6,p7,p0,p1⟩ := wides_stored B8 (by omega) (by omega) h67 b6 b7 D08 D18 (.int .u64 ((an.natAbs * bd.natAbs / 18446744073709551616 : Nat) : Int)) (.int .u64 ((an.natAbs * bd.natAbs % 18446744073709551616 : Nat) : Int)) (.int .u64 ((bn.natAbs * ad.natAbs / 18446744073709551616 : Nat) : Int)) (.int .u64 ((bn.natAbs * ad.natAbs % 18446744073709551616 : Nat) : Int)) rfl
 have HN' : Hid (an < 0 → (an * bd < bn * ad ↔ bn.natAbs * ad.natAbs < an.natAbs * bd.natAbs) ∧ (bn * ad < an * bd ↔ an.natAbs * bd.natAbs < bn.natAbs * ad.natAbs)) := HN.out
 have f60 := b6.frozen 0
 have f61 := b6.frozen 1
 have b7x := (b7.far (p := ⟨g6,0,none⟩) h67 (.int .u64 ((an.natAbs * bd.natAbs / 18446744073709551616 : Nat) : Int))).far (p := ⟨g6,1,none⟩) h67 (.int .u64 ((an.natAbs * bd.natAbs % 18446744073709551616 : Nat) : Int))
 have b7y := b7x.set_ 0 (.int .u64 ((bn.natAbs * ad.natAbs / 18446744073709551616 : Nat) : Int))
 have f70 := b7x.frozen 0
 have f71 := b7y.frozen 1
 have b70 := b7x.cell 0
 have b71 := b7y.cell 1
 have q60 := p6.cell 0
 have q61 := p6.cell 1
 have q70 := p7.cell 0
 have q71 := p7.cell 1
 have q00 := p0.cell 0
 have q10 := p1.cell 0
 have b60 := b6.cell 0
 have b61 := b6.cell 1
 simp only [List.setIfInBounds_toArray,List.set_cons_zero] at b71
 simp only [List.getElem?_toArray,List.getElem?_cons_succ,List.getElem?_cons_zero] at q60 q61 q70 q71 q00 q10 b60 b61 b70 b71
 generalize an.natAbs * bd.natAbs = m at *
 generalize bn.natAbs * ad.natAbs = n at *
 have hL1 := fun W => raLess m n W
 have hL2 := fun W => raLess n m W
 unfold wideV at *
 generalize ((m / 18446744073709551616 : Nat) : Int) = mh at *
 generalize ((m % 18446744073709551616 : Nat) : Int) = ml at *
 generalize ((n / 18446744073709551616 : Nat) : Int) = nh at *
 generalize ((n % 18446744073709551616 : Nat) : Int) = nl at *
 have P6 := Lib.hid p6
 have P7 := Lib.hid p7
 have B9 := Lib.hid B9
 have H67 := Lib.hid h67
 have HL67 : Hid (w.heap.size < g6 ∧ w.heap.size < g7) := by unfold Hid;omega
 clear b7x b7y HN HSa HSb HP1 HP2 h67 hs3 Hs l6 l7 b6 b7 p6 p7 p0 p1 B8 D08 D18 hA hF hb8 HB D0 D1 u0 u1 u2 u3
 by_cases c0 : an < 0
 rotate_left
 ·have hcr := HG.out (by omega)
  have d0 : decide (an < 0) = false := decide_eq_false c0
  subst hcr
  clear c0 HG HN' HV
  go_wp2_with fail
  go_ret2
  exact ⟨rfl,B9.out⟩
 ·have d0 : decide (an < 0) = true := decide_eq_true c0
  have hN := HN'.out c0
  have HV2 : Hid (cr = if n < m then -1 else if m < n then 1 else 0) := by
   unfold Hid
   rw [HV.out]
   simp only [hN.1,hN.2]
  clear c0 HG HN' HV hN
  go_upto_region 9 with fail
  generalize (((w8.setCell ⟨g6,0,none⟩ (.int .u64 mh)).setCell ⟨g6,1,none⟩ (.int .u64 ml)).setCell ⟨g7,0,none⟩ (.int .u64 nh)).setCell ⟨g7,1,none⟩ (.int .u64 nl) = W9 at *
  clear f60 f61 f70 f71 b60 b61 b70 b71 q60 q61 q70 q71 q00 q10
  have q60 := P6.out.cell 0
  have q61 := P6.out.cell 1
  have q70 := P7.out.cell 0
  have q71 := P7.out.cell 1
  have f60 := P6.out.frozen 0
  have f61 := P6.out.frozen 1
  have f70 := P7.out.frozen 0
  have f71 := P7.out.frozen 1
  simp only [List.getElem?_toArray,List.getElem?_cons_succ,List.getElem?_cons_zero] at q60 q61 q70 q71
  have h67' := H67.out
  have S6 := Lib.hid ((((P6.out.set_ 0 (.int .u64 nh)).set_ 1 (.int .u64 nl)).far (p := ⟨g7,0,none⟩) (Ne.symm h67') (.int .u64 mh)).far (p := ⟨g7,1,none⟩) (Ne.symm h67') (.int .u64 ml))
  have S7 := Lib.hid ((((P7.out.far (p := ⟨g6,0,none⟩) h67' (.int .u64 nh)).far (p := ⟨g6,1,none⟩) h67' (.int .u64 nl)).set_ 0 (.int .u64 mh)).set_ 1 (.int .u64 ml))
  have C9 := Lib.hid ((((B9.out.setCell (p := ⟨g6,0,none⟩) (Nat.le_of_lt HL67.out.1) (.int .u64 nh)).setCell (p := ⟨g6,1,none⟩) (Nat.le_of_lt HL67.out.1) (.int .u64 nl)).setCell (p := ⟨g7,0,none⟩) (Nat.le_of_lt HL67.out.2) (.int .u64 mh)).setCell (p := ⟨g7,1,none⟩) (Nat.le_of_lt HL67.out.2) (.int .u64 ml))
  clear P6 P7 B9
  go_upto_region 10 with fail
  generalize (((W9.setCell ⟨g6,0,none⟩ (.int .u64 nh)).setCell ⟨g6,1,none⟩ (.int .u64 nl)).setCell ⟨g7,0,none⟩ (.int .u64 mh)).setCell ⟨g7,1,none⟩ (.int .u64 ml) = W10 at *
  clear q60 q61 q70 q71 f60 f61 f70 f71 h67'
  have q60 := S6.out.cell 0
  have q61 := S6.out.cell 1
  have q70 := S7.out.cell 0
  have q71 := S7.out.cell 1
  simp only [List.setIfInBounds_toArray,List.set_cons_zero,List.set_cons_succ,List.getElem?_toArray,List.getElem?_cons_succ,List.getElem?_cons_zero] at q60 q61 q70 q71
  by_cases c1 : n < m
  ·have e1 : decide (n < m) = true := decide_eq_true c1
   rw [e1] at hL2
   have hcr : cr = -1 := by rw [HV2.out,if_pos c1]
   subst hcr
   clear c1 e1 HV2 hL1
   go_wp2_with fail
   refine (hL2 _).mono ?_
   rintro e w5 ⟨rfl,hb5⟩
   have hb := C9.out.trans (hb5.mono C9.out.size)
   go_wp2_with fail
   go_ret2
   exact ⟨rfl,hb⟩
  ·have e1 : decide (n < m) = false := decide_eq_false c1
   rw [e1] at hL2
   go_wp2_with fail
   refine (hL2 _).mono ?_
   rintro e w5 ⟨rfl,hb5⟩
   have HB5 := Lib.hid (C9.out.trans (hb5.mono C9.out.size))
   have P65 := S6.out.below hb5 S6.out.lt
   have P75 := S7.out.below hb5 S7.out.lt
   clear q60 q61 q70 q71
   have q60 := P65.cell 0
   have q61 := P65.cell 1
   have q70 := P75.cell 0
   have q71 := P75.cell 1
   simp only [List.setIfInBounds_toArray,List.set_cons_zero,List.set_cons_succ,List.getElem?_toArray,List.getElem?_cons_succ,List.getElem?_cons_zero] at q60 q61 q70 q71
   clear P65 P75 hb5 S6 S7 C9 e1 hL2
   by_cases c2 : m < n
   ·have e2 : decide (m < n) = true := decide_eq_true c2
    rw [e2] at hL1
    have hcr : cr = 1 := by rw [HV2.out,if_neg c1,if_pos c2]
    subst hcr
    clear c1 c2 e2 HV2
    go_wp2_with fail
    refine (hL1 _).mono ?_
    rintro e w6 ⟨rfl,hb6⟩
    have hb := HB5.out.trans (hb6.mono HB5.out.size)
    go_wp2_with fail
    go_ret2
    exact ⟨rfl,hb⟩
   ·have e2 : decide (m < n) = false := decide_eq_false c2
    rw [e2] at hL1
    have hcr : cr = 0 := by rw [HV2.out,if_neg c1,if_neg c2]
    subst hcr
    clear c1 c2 e2 HV2
    go_wp2_with fail
    refine (hL1 _).mono ?_
    rintro e w6 ⟨rfl,hb6⟩
    have hb := HB5.out.trans (hb6.mono HB5.out.size)
    go_wp2_with fail
    go_ret2
    exact ⟨rfl,hb⟩
theorem raCmpA (a b : FrT) (w : World) (ha : frGood a = true) (hb : frGood b = true) :
  Calls Tryz.prog 31 #[a.val,b.val] w fun e w' => e = .returned (.tuple #[.int .i64 (cmpF a b),.int .i64 0]) ∧ Below w.heap.size w w' := by
 by_cases h : b.num < 0
 ·exact raCmpN a b w ha hb h
 ·exact raCmp a b w ha hb (by omega)
end Go.Proofs.YtknkhnahflmjiaaGreatDoor

namespace Go.Proofs.YtknkhnahflmjiaaGreatDoor
open Go.RowKit Go.Shelf
set_option maxRecDepth 100000 in
set_option maxHeartbeats 1000000 in
theorem law23Few (v : Value) (s : SetT) (w : World) (hv : SetAt w w.heap.size v s) (hn : SetNames s) : Calls Tryz.prog 17 #[v] w fun e w' => ∃ q : Bool,e = .returned (.bool q) ∧ Below w.heap.size w w' := by
 have HS := fun W (hb : Below w.heap.size w W) => refSmall v s 12 W (hv.grow hb) hn.name hn.items hn.bricks
 unfold AnsB at HS
 obtain ⟨Al,cl,Ai,ci,Ab,cb,rfl,-,-,-⟩ := hv
 have HD := Lib.hid (Blk.new w 37 #[.string s.name,.int .i64 s.depth,.int .i64 s.low,.int .i64 s.high,.int .i64 s.len,.slice Al s.lines.length cl,.int .i64 s.pipe,.int .i64 s.arbor,.int .i64 s.purch,.int .i64 s.most,.int .i64 s.brake,.slice Ai s.items.length ci,.slice Ab s.bricks.length cb])
 have HB := Lib.hid ((Below.refl _ w).alloc (Nat.le_refl _) (.cells #[.string s.name,.int .i64 s.depth,.int .i64 s.low,.int .i64 s.high,.int .i64 s.len,.slice Al s.lines.length cl,.int .i64 s.pipe,.int .i64 s.arbor,.int .i64 s.purch,.int .i64 s.most,.int .i64 s.brake,.slice Ai s.items.length ci,.slice Ab s.bricks.length cb] 37))
 have hs := HS _ HB.out
 clear HS hn
 unfold setVal at *
 go_enter Tryz.func17,Tryz.ntmps17
 go_upto_region 1 with fail
 generalize w.alloc (.cells #[.string s.name,.int .i64 s.depth,.int .i64 s.low,.int .i64 s.high,.int .i64 s.len,.slice Al s.lines.length cl,.int .i64 s.pipe,.int .i64 s.arbor,.int .i64 s.purch,.int .i64 s.most,.int .i64 s.brake,.slice Ai s.items.length ci,.slice Ab s.bricks.length cb] 37) = W1 at *
 have z0 := HD.out.cell 0;have z1 := HD.out.cell 1;have z2 := HD.out.cell 2;have z3 := HD.out.cell 3;have z4 := HD.out.cell 4;have z5 := HD.out.cell 5;have z6 := HD.out.cell 6;have z7 := HD.out.cell 7;have z8 := HD.out.cell 8;have z9 := HD.out.cell 9;have z10 := HD.out.cell 10;have z11 := HD.out.cell 11;have z12 := HD.out.cell 12
 simp only [List.getElem?_toArray,List.getElem?_cons_succ,List.getElem?_cons_zero] at z0 z1 z2 z3 z4 z5 z6 z7 z8 z9 z10 z11 z12
 go_wp2_with (first | (go_at_call 41;refine hs.mono ?_;rintro e w2 ⟨q,rfl,hb2⟩))
 go_ret
 exact ⟨q,rfl,HB.out.trans (hb2.mono HB.out.size)⟩
end Go.Proofs.YtknkhnahflmjiaaGreatDoor
