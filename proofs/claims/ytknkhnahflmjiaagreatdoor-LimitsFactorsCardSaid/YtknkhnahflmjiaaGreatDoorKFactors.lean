/- For every input the law returns true, and its arguments read as they did. -/
import Derived.Below
import Derived.BigQuiet
import Derived.Carry
import Derived.ChangeSame
import Derived.Deep.AppendLies
import Derived.Deep.DeepCutAuto
import Derived.Deep.Draws
import Derived.Deep.Fields
import Derived.Deep.LoopGhost
import Derived.Deep.QuietTactic
import Derived.Deep.RegionHeld3
import Derived.Deep.RegionLaw
import Derived.Deep.Slices
import Derived.IntWalk
import Derived.LaidMore
import Derived.Laws.AppendOwnNone
import Derived.Laws.Bits64b
import Derived.Lib.Hide
import Derived.Lib.ItoaNum
import Derived.LoopIn
import Derived.LoopNIn
import Derived.Maps.AppendAt
import Derived.Maps.Own
import Derived.Maps.OwnOps
import Derived.Maps.OwnSet
import Derived.Maps.Views
import Derived.OpenShut
import Derived.Outline
import Derived.OwnWalkIn
import Derived.PlainAid
import Derived.ProofKit
import Derived.RangeFuncBox
import Derived.RangeFuncLeaves
import Derived.Shelf.Abstract
import Derived.Shelf.Bits.Mul64
import Derived.Shelf.Small.Bits
import Derived.Shelf.Spec.BitsCarry
import Derived.Shelf.Spec.SlicesGrow
import Derived.Shelf.Strconv.Itoa3
import Derived.SliceStrings
import Derived.StillTail
import Derived.StillTailTactics
import Derived.Stop.Joined
import Derived.TacticsInMore
import Derived.Test.YtknkhnahflmjiaaGreatDoorC1
import Derived.Test.YtknkhnahflmjiaaGreatDoorC2
import Derived.Test.YtknkhnahflmjiaaGreatDoorC3
import Derived.Test.YtknkhnahflmjiaaGreatDoorC4
import Derived.Test.YtknkhnahflmjiaaGreatDoorC5
import Derived.Test.YtknkhnahflmjiaaGreatDoorC6
import Derived.Test.YtknkhnahflmjiaaGreatDoorC7
import Derived.Test.YtknkhnahflmjiaaGreatDoorCards
import Derived.Test.YtknkhnahflmjiaaGreatDoorD1
import Derived.Test.YtknkhnahflmjiaaGreatDoorD2
import Derived.Test.YtknkhnahflmjiaaGreatDoorD3
import Derived.Test.YtknkhnahflmjiaaGreatDoorD4
import Derived.Test.YtknkhnahflmjiaaGreatDoorG1
import Derived.Test.YtknkhnahflmjiaaGreatDoorL1
import Derived.Test.YtknkhnahflmjiaaGreatDoorL2
import Derived.Test.YtknkhnahflmjiaaGreatDoorL3
import Derived.Test.YtknkhnahflmjiaaGreatDoorL4
import Derived.Test.YtknkhnahflmjiaaGreatDoorL5
import Derived.Test.YtknkhnahflmjiaaGreatDoorL6
import Derived.Test.YtknkhnahflmjiaaGreatDoorL7
import Derived.Test.YtknkhnahflmjiaaGreatDoorL8
import Derived.Test.YtknkhnahflmjiaaGreatDoorM1
import Derived.Test.YtknkhnahflmjiaaGreatDoorM2
import Derived.Test.YtknkhnahflmjiaaGreatDoorM3
import Derived.Test.YtknkhnahflmjiaaGreatDoorProg
import Derived.Test.YtknkhnahflmjiaaGreatDoorRows
import Derived.Test.YtknkhnahflmjiaaGreatDoorS4
import Derived.Test.YtknkhnahflmjiaaGreatDoorTie
import Derived.WalkKit
import Derived.WalkLawsBesides
import Derived.WalkSpells

namespace Go.Proofs.YtknkhnahflmjiaaGreatDoor
open Go.ChangeShapes Go.WideShapes Go.ChangeAt Go.RowKit
theorem limitsFactors_door (os : Os) (args : Array Value) : laidMetH Tryz.prog Rows.limitsFactorsRow.laid ((World.doorLaid Tryz.prog 400 os).forCall (fun _ _ => 0) ⟨#[],args,[]⟩).memory :=
 laidMetH_of_parts3 (fuel := 8) (laidMet_of_run' 8 (by kernel_rfl) (by kernel_rfl)) (by kernel_rfl) (by kernel_rfl)
set_option maxRecDepth 100000 in
theorem limitsFactors_lifted (os : Os) (started : os.Started) (H : Type) (enc : TypeId × Value → H) :
  ReturnsInHanded {} Tryz.checked os 3 .any (fun w args => (Rows.limitsFactorsSpec.pre enc Tryz.prog Tryz.f3 [] false w args ∧ laidMetH Tryz.prog Rows.limitsFactorsRow.laid w) ∧ sizedMet enc Tryz.prog Tryz.f3 (OpenSpec.ofChange Rows.limitsFactorsSpec) false w args) (Rows.limitsFactorsSpec.post enc Tryz.prog Tryz.f3 false true false false) := by
 refine law_liftedL started (by kernel_rfl) Tryz.func3 rfl (by kernel_rfl) ?_ ?_ (ChangeSpec.witness_shaped (enc := enc) (C := Tryz.checked) (os := os) (X := fun w _ => laidMetH Tryz.prog Rows.limitsFactorsRow.laid w) false (World.doorLaid Tryz.prog 400 os) #[.agg #[.int .i64 0,.int .i64 0],.int .i64 0] 8 rfl (World.shaped_of_RefB (by kernel_rfl) (by kernel_rfl)) (by kernel_rfl) (by kernel_rfl) (by kernel_rfl) (limitsFactors_door os _)) ?_
 ·rw [Tryz.params3]
  intro t ht
  simp only [List.mem_cons,List.not_mem_nil,or_false] at ht
  rcases ht with rfl | rfl <;> exact ⟨by kernel_rfl,of_decide_eq_true (by kernel_rfl)⟩
 ·intro ds hds
  match ds,hds with
  | [d0,d1],_ => exact ⟨rfl,rfl,rfl⟩
 ·intro W base args ds ps hval hA
  rw [Tryz.params3] at hA hval
  obtain ⟨v0,vs0,d0,ds0,p0,q0,hargs,rfl,rfl,h0,r0⟩ := trodAll_cons hA
  obtain ⟨v1,vs1,d1,ds1,p1,q1,rfl,rfl,rfl,h1,r1⟩ := trodAll_cons r0
  obtain ⟨rfl,rfl,rfl⟩ := trodAll_nil r1
  obtain rfl : args = #[v0,v1] := by cases args;simp_all
  obtain ⟨cs0,rfl,hcs0⟩ := okWide_struct Tryz.underlying23 (hval 0 23 v0 rfl rfl)
  rw [show Tryz.prog.cellsOf 23 = 2 from by kernel_rfl] at hcs0
  obtain ⟨fuel0,hf0⟩ := h0
  obtain ⟨x0,hx0⟩ := frac_of_trod hcs0 hf0
  rw [hx0]
  obtain ⟨x1,rfl,-,-,wf1⟩ := open_int Tryz.underlying3 (hval 1 3 v1 rfl rfl) h1
  exact lawFactors x0 x1 W
theorem limitsFactors_row : Rows.LimitsFactorsSaid :=
 OpenClaim.holds_of_wide 3 Tryz.f3 rfl rfl rfl rfl rfl rfl rfl ⟨rfl,rfl,rfl,rfl,rfl⟩ rfl rfl rfl rfl rfl (by kernel_rfl) Tryz.func3 (by kernel_rfl)
  (of_decide_eq_true (by kernel_rfl)) (by unfold Func.isWrapper;first | (rw [if_pos (by decide +kernel)];kernel_rfl) | (rw [if_neg (by decide +kernel)];exact ⟨rfl,rfl⟩))
  (fun os started H enc _ => limitsFactors_lifted os started H enc)
theorem limitsFactors_holds : Rows.LimitsFactorsCardSaid :=
 Claim7.holds_tied_plain_at .later [] [.data,.data,.data] true Rows.limitsFactorsCard.stood.harness false
  limitsFactors_row (fun _ h => by cases h) (by kernel_rfl) (fun _ h => by cases h) limitsFactors_row_tie rfl ⟨rfl,rfl⟩ (by kernel_rfl) rfl
  (fun f fn hf hfn => by
   obtain rfl : f = 3 := Option.some.inj ((show Tryz.prog.funcNamed "loftblock/loftblocklaw23.LimitsFactors" = some 3 by kernel_rfl).symm.trans hf) |>.symm
   obtain rfl : fn = Tryz.f3 := (Option.some.inj (Tryz.func3.symm.trans hfn)).symm
   exact ⟨by kernel_rfl,fun j t ht => by
    rw [Tryz.params3] at ht
    have h3 : t = 23 ∨ t = 3 := by
     rcases j with _ | _ | j
     ·exact .inl (by simpa using ht.symm)
     ·exact .inr (by simpa using ht.symm)
     ·simp at ht
    rcases h3 with rfl | rfl
    ·exact (show Tryz.prog.wantsStandIn 23 = false by kernel_rfl)
    ·exact (show Tryz.prog.wantsStandIn 3 = false by kernel_rfl)⟩)
  (by kernel_rfl)
#print axioms limitsFactors_holds
end Go.Proofs.YtknkhnahflmjiaaGreatDoor
