/- For every input the law returns true, and its arguments read as they did. -/
import Derived.Below
import Derived.BigQuiet
import Derived.Carry
import Derived.ChangeSame
import Derived.Deep.AppendLies
import Derived.Deep.DeepCutAuto
import Derived.Deep.Draws
import Derived.Deep.Fields
import Derived.Deep.LoopGhost
import Derived.Deep.QuietTactic
import Derived.Deep.RegionHeld3
import Derived.Deep.RegionLaw
import Derived.Deep.Slices
import Derived.IntWalk
import Derived.LaidMore
import Derived.Laws.AppendOwnNone
import Derived.Laws.Bits64b
import Derived.Laws.CopyOwn
import Derived.Laws.CopyRow
import Derived.Lib.Hide
import Derived.Lib.ItoaNum
import Derived.LoopIn
import Derived.LoopNIn
import Derived.Maps.AppendAt
import Derived.Maps.Own
import Derived.Maps.OwnOps
import Derived.Maps.OwnSet
import Derived.Maps.Views
import Derived.OpenShut
import Derived.Outline
import Derived.OwnWalkIn
import Derived.PlainAid
import Derived.ProofKit
import Derived.RangeFuncBox
import Derived.RangeFuncLeaves
import Derived.Shelf.Abstract
import Derived.Shelf.Bits.Mul64
import Derived.Shelf.Small.Bits
import Derived.Shelf.Spec.BitsCarry
import Derived.Shelf.Spec.SlicesGrow
import Derived.Shelf.Strconv.Itoa3
import Derived.SliceStrings
import Derived.StillTail
import Derived.StillTailTactics
import Derived.Stop.Joined
import Derived.TacticsInMore
import Derived.Test.YtknkhnahflmjiaaGreatDoorB1
import Derived.Test.YtknkhnahflmjiaaGreatDoorCards
import Derived.Test.YtknkhnahflmjiaaGreatDoorE1
import Derived.Test.YtknkhnahflmjiaaGreatDoorE2
import Derived.Test.YtknkhnahflmjiaaGreatDoorE3
import Derived.Test.YtknkhnahflmjiaaGreatDoorE4
import Derived.Test.YtknkhnahflmjiaaGreatDoorE5
import Derived.Test.YtknkhnahflmjiaaGreatDoorE6
import Derived.Test.YtknkhnahflmjiaaGreatDoorE7
import Derived.Test.YtknkhnahflmjiaaGreatDoorF1
import Derived.Test.YtknkhnahflmjiaaGreatDoorF2
import Derived.Test.YtknkhnahflmjiaaGreatDoorF3
import Derived.Test.YtknkhnahflmjiaaGreatDoorF4
import Derived.Test.YtknkhnahflmjiaaGreatDoorH1
import Derived.Test.YtknkhnahflmjiaaGreatDoorH2
import Derived.Test.YtknkhnahflmjiaaGreatDoorH3
import Derived.Test.YtknkhnahflmjiaaGreatDoorH4
import Derived.Test.YtknkhnahflmjiaaGreatDoorH5
import Derived.Test.YtknkhnahflmjiaaGreatDoorH6
import Derived.Test.YtknkhnahflmjiaaGreatDoorH7
import Derived.Test.YtknkhnahflmjiaaGreatDoorH9
import Derived.Test.YtknkhnahflmjiaaGreatDoorP1
import Derived.Test.YtknkhnahflmjiaaGreatDoorP2
import Derived.Test.YtknkhnahflmjiaaGreatDoorP3
import Derived.Test.YtknkhnahflmjiaaGreatDoorP4
import Derived.Test.YtknkhnahflmjiaaGreatDoorP5
import Derived.Test.YtknkhnahflmjiaaGreatDoorProg
import Derived.Test.YtknkhnahflmjiaaGreatDoorRows
import Derived.Test.YtknkhnahflmjiaaGreatDoorS5
import Derived.Test.YtknkhnahflmjiaaGreatDoorTie
import Derived.WalkKit
import Derived.WalkLawsBesides
import Derived.WalkSpells

namespace Go.Proofs.YtknkhnahflmjiaaGreatDoor
open Go.ChangeShapes Go.WideShapes Go.ChangeAt Go.RowKit
theorem limitsGreater_u16 {y : Int} (h : (Lit.int .u16 y).wf = true) : 0 ≤ y ∧ y ≤ 65535 := by
 simp [Lit.wf,IntKind.min,IntKind.max,IntKind.signed,IntKind.bits] at h
 omega
theorem limitsGreater_door (os : Os) (args : Array Value) : laidMetH Tryz.prog Rows.limitsGreaterRow.laid ((World.doorLaid Tryz.prog 400 os).forCall (fun _ _ => 0) ⟨#[],args,[]⟩).memory :=
 laidMetH_of_parts3 (fuel := 8) (laidMet_of_run' 8 (by kernel_rfl) (by kernel_rfl)) (by kernel_rfl) (by kernel_rfl)
set_option maxRecDepth 100000 in
theorem limitsGreater_lifted (os : Os) (started : os.Started) (H : Type) (enc : TypeId × Value → H) :
  ReturnsInHanded {} Tryz.checked os 9 .any (fun w args => (Rows.limitsGreaterSpec.pre enc Tryz.prog Tryz.f9 [] false w args ∧ laidMetH Tryz.prog Rows.limitsGreaterRow.laid w) ∧ sizedMet enc Tryz.prog Tryz.f9 (OpenSpec.ofChange Rows.limitsGreaterSpec) false w args) (Rows.limitsGreaterSpec.post enc Tryz.prog Tryz.f9 false true false false) := by
 refine law_liftedL started (by kernel_rfl) Tryz.func9 rfl (by kernel_rfl) ?_ ?_ (ChangeSpec.witness_shaped (enc := enc) (C := Tryz.checked) (os := os) (X := fun w _ => laidMetH Tryz.prog Rows.limitsGreaterRow.laid w) false (World.doorLaid Tryz.prog 400 os) #[.agg #[.string ⟨#[]⟩,.int .i64 0,.int .i64 0,.int .i64 0,.int .i64 0,.slice none 0 0,.int .i64 0,.int .i64 0,.int .i64 0,.int .i64 0,.int .i64 0,.slice none 0 0,.slice none 0 0],.slice none 0 0,.slice none 0 0,.agg #[.int .i64 0,.int .i64 0],.agg #[.int .i64 0,.int .i64 0],.int .u16 0] 8 rfl (World.shaped_of_RefB (by kernel_rfl) (by kernel_rfl)) (by kernel_rfl) (by kernel_rfl) (by kernel_rfl) (limitsGreater_door os _)) ?_
 ·rw [Tryz.params9]
  intro t ht
  simp only [List.mem_cons,List.not_mem_nil,or_false] at ht
  rcases ht with rfl | rfl | rfl | rfl | rfl | rfl <;> exact ⟨by kernel_rfl,of_decide_eq_true (by kernel_rfl)⟩
 ·intro ds hds
  match ds,hds with
  | [d0,d1,d2,d3,d4,d5],_ => exact ⟨rfl,rfl,rfl⟩
 ·intro W base args ds ps hval hA
  rw [Tryz.params9] at hA hval
  obtain ⟨v0,vs0,d0,ds0,p0,q0,hargs,rfl,rfl,h0,r0⟩ := trodAll_cons hA
  obtain ⟨v1,vs1,d1,ds1,p1,q1,rfl,rfl,rfl,h1,r1⟩ := trodAll_cons r0
  obtain ⟨v2,vs2,d2,ds2,p2,q2,rfl,rfl,rfl,h2,r2⟩ := trodAll_cons r1
  obtain ⟨v3,vs3,d3,ds3,p3,q3,rfl,rfl,rfl,h3,r3⟩ := trodAll_cons r2
  obtain ⟨v4,vs4,d4,ds4,p4,q4,rfl,rfl,rfl,h4,r4⟩ := trodAll_cons r3
  obtain ⟨v5,vs5,d5,ds5,p5,q5,rfl,rfl,rfl,h5,r5⟩ := trodAll_cons r4
  obtain ⟨rfl,rfl,rfl⟩ := trodAll_nil r5
  obtain rfl : args = #[v0,v1,v2,v3,v4,v5] := by cases args;simp_all
  obtain ⟨cs0,rfl,hcs0⟩ := okWide_struct Tryz.underlying37 (hval 0 37 v0 rfl rfl)
  rw [show Tryz.prog.cellsOf 37 = 13 from by kernel_rfl] at hcs0
  obtain ⟨fuel0,hf0⟩ := h0
  obtain ⟨x0,hx0,hn0⟩ := set_of_trod (by simpa [Value.cells] using hcs0) hf0
  obtain ⟨a1,n1,c1,rfl⟩ := okWide_slice Tryz.underlying65 (hval 1 65 v1 rfl rfl)
  obtain ⟨fuel1,hf1⟩ := h1
  obtain ⟨x1,hx1,hn1⟩ := roofs_of_trod hf1
  obtain ⟨a2,n2,c2,rfl⟩ := okWide_slice Tryz.underlying66 (hval 2 66 v2 rfl rfl)
  obtain ⟨fuel2,hf2⟩ := h2
  obtain ⟨x2,hx2⟩ := loads_of_trod hf2
  obtain ⟨cs3,rfl,hcs3⟩ := okWide_struct Tryz.underlying23 (hval 3 23 v3 rfl rfl)
  rw [show Tryz.prog.cellsOf 23 = 2 from by kernel_rfl] at hcs3
  obtain ⟨fuel3,hf3⟩ := h3
  obtain ⟨x3,hx3⟩ := frac_of_trod hcs3 hf3
  rw [hx3]
  obtain ⟨cs4,rfl,hcs4⟩ := okWide_struct Tryz.underlying23 (hval 4 23 v4 rfl rfl)
  rw [show Tryz.prog.cellsOf 23 = 2 from by kernel_rfl] at hcs4
  obtain ⟨fuel4,hf4⟩ := h4
  obtain ⟨x4,hx4⟩ := frac_of_trod hcs4 hf4
  rw [hx4]
  obtain ⟨x5,rfl,-,-,wf5⟩ := open_int Tryz.underlying74 (hval 5 74 v5 rfl rfl) h5
  exact lawGreater _ _ _ x0 x1 x2 x3 x4 x5 W (limitsGreater_u16 wf5) (by simpa [Value.cells] using hx0) hn0 hx1 hn1 hx2
theorem andT {a b : Bool} (h : a = true) (h2 : b = true) : (a && b) = true := by rw [h,h2];rfl
set_option maxHeartbeats 8000000 in
theorem limitsGreater_row : Rows.LimitsGreaterSaid :=
 OpenClaim.holds_of_wide 9 Tryz.f9 rfl rfl rfl rfl rfl rfl rfl ⟨rfl,rfl,rfl,rfl,rfl⟩ rfl rfl rfl rfl rfl (by as_aux_lemma => kernel_rfl) Tryz.func9 (by unfold joinedFacts;repeat' (with_reducible refine andT ?_ ?_);all_goals (as_aux_lemma => kernel_rfl))
  (of_decide_eq_true (by as_aux_lemma => kernel_rfl)) (by unfold Func.isWrapper;first | (rw [if_pos (by decide +kernel)];kernel_rfl) | (rw [if_neg (by decide +kernel)];exact ⟨rfl,rfl⟩))
  (fun os started H enc _ => limitsGreater_lifted os started H enc)
theorem limitsGreater_holds : Rows.LimitsGreaterCardSaid :=
 Claim7.holds_tied_plain_at .later [] [.data,.data,.data] true Rows.limitsGreaterCard.stood.harness false
  limitsGreater_row (fun _ h => by cases h) (by kernel_rfl) (fun _ h => by cases h) limitsGreater_row_tie rfl ⟨rfl,rfl⟩ (by kernel_rfl) rfl
  (fun f fn hf hfn => by
   obtain rfl : f = 9 := Option.some.inj ((show Tryz.prog.funcNamed "loftblock/loftblocklaw23.LimitsGreater" = some 9 by kernel_rfl).symm.trans hf) |>.symm
   obtain rfl : fn = Tryz.f9 := (Option.some.inj (Tryz.func9.symm.trans hfn)).symm
   exact ⟨by kernel_rfl,fun j t ht => by
    rw [Tryz.params9] at ht
    have h3 : t = 37 ∨ t = 65 ∨ t = 66 ∨ t = 23 ∨ t = 74 := by
     rcases j with _ | _ | _ | _ | _ | _ | j
     ·exact .inl (by simpa using ht.symm)
     ·exact .inr (.inl (by simpa using ht.symm))
     ·exact .inr (.inr (.inl (by simpa using ht.symm)))
     ·exact .inr (.inr (.inr (.inl (by simpa using ht.symm))))
     ·exact .inr (.inr (.inr (.inl (by simpa using ht.symm))))
     ·exact .inr (.inr (.inr (.inr ((by simpa using ht.symm)))))
     ·simp at ht
    rcases h3 with rfl | rfl | rfl | rfl | rfl
    ·exact (show Tryz.prog.wantsStandIn 37 = false by kernel_rfl)
    ·exact (show Tryz.prog.wantsStandIn 65 = false by kernel_rfl)
    ·exact (show Tryz.prog.wantsStandIn 66 = false by kernel_rfl)
    ·exact (show Tryz.prog.wantsStandIn 23 = false by kernel_rfl)
    ·exact (show Tryz.prog.wantsStandIn 74 = false by kernel_rfl)⟩)
  (by kernel_rfl)
#print axioms limitsGreater_holds
end Go.Proofs.YtknkhnahflmjiaaGreatDoor
