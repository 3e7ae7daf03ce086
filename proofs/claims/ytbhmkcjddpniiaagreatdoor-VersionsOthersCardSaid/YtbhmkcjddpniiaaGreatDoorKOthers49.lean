/- For every input the law returns true, and its arguments read as they did. -/
import Derived.Below
import Derived.BigQuiet
import Derived.Carry
import Derived.ChangeSame
import Derived.Deep.AppendLies
import Derived.Deep.Cut
import Derived.Deep.Draws
import Derived.Deep.Fields
import Derived.Deep.LoopGhost
import Derived.Deep.MidRow
import Derived.Deep.QuietTactic
import Derived.Deep.RegionHeld3
import Derived.Deep.RegionLaw
import Derived.Deep.Slices
import Derived.IntWalk
import Derived.LaidMore
import Derived.LaidSub
import Derived.Laws.Bits64b
import Derived.Laws.Concat
import Derived.Laws.EntriesVeiled
import Derived.Lib.AppendIntMem
import Derived.Lib.Hide
import Derived.Lib.ItoaLen
import Derived.Lib.ItoaMem
import Derived.Lib.Join
import Derived.Lib.SliceRun
import Derived.Lib.SmallJoins
import Derived.LoopIn
import Derived.LoopNIn
import Derived.MakeChecks
import Derived.Maps.AppendAt
import Derived.Maps.Own
import Derived.Maps.OwnOps
import Derived.Maps.OwnSet
import Derived.Maps.Views
import Derived.OpenShut
import Derived.Outline
import Derived.OwnWalkIn
import Derived.PlainAid
import Derived.ProofKit
import Derived.RangeFuncBox
import Derived.RangeFuncLeaves
import Derived.Shelf.Abstract
import Derived.Shelf.Bits.Mul64
import Derived.Shelf.Strconv.Itoa3
import Derived.Shelf.Strings.Count
import Derived.Shelf.Strings.OnBuilder
import Derived.Shelf.Strings.Prefix
import Derived.SliceStrings
import Derived.StillTail
import Derived.StillTailTactics
import Derived.Stop.Joined
import Derived.TacticsInMore
import Derived.Test.YtbhmkcjddpniiaaGreatDoorC1
import Derived.Test.YtbhmkcjddpniiaaGreatDoorC2
import Derived.Test.YtbhmkcjddpniiaaGreatDoorC3
import Derived.Test.YtbhmkcjddpniiaaGreatDoorC4
import Derived.Test.YtbhmkcjddpniiaaGreatDoorC5
import Derived.Test.YtbhmkcjddpniiaaGreatDoorC6
import Derived.Test.YtbhmkcjddpniiaaGreatDoorC7
import Derived.Test.YtbhmkcjddpniiaaGreatDoorCards
import Derived.Test.YtbhmkcjddpniiaaGreatDoorD1
import Derived.Test.YtbhmkcjddpniiaaGreatDoorD2
import Derived.Test.YtbhmkcjddpniiaaGreatDoorD3
import Derived.Test.YtbhmkcjddpniiaaGreatDoorD4
import Derived.Test.YtbhmkcjddpniiaaGreatDoorD5
import Derived.Test.YtbhmkcjddpniiaaGreatDoorD6
import Derived.Test.YtbhmkcjddpniiaaGreatDoorD9
import Derived.Test.YtbhmkcjddpniiaaGreatDoorG1
import Derived.Test.YtbhmkcjddpniiaaGreatDoorI1
import Derived.Test.YtbhmkcjddpniiaaGreatDoorI10
import Derived.Test.YtbhmkcjddpniiaaGreatDoorI11
import Derived.Test.YtbhmkcjddpniiaaGreatDoorI12
import Derived.Test.YtbhmkcjddpniiaaGreatDoorI13
import Derived.Test.YtbhmkcjddpniiaaGreatDoorI15
import Derived.Test.YtbhmkcjddpniiaaGreatDoorI2
import Derived.Test.YtbhmkcjddpniiaaGreatDoorI3
import Derived.Test.YtbhmkcjddpniiaaGreatDoorI5
import Derived.Test.YtbhmkcjddpniiaaGreatDoorI6
import Derived.Test.YtbhmkcjddpniiaaGreatDoorI7
import Derived.Test.YtbhmkcjddpniiaaGreatDoorI8
import Derived.Test.YtbhmkcjddpniiaaGreatDoorI9
import Derived.Test.YtbhmkcjddpniiaaGreatDoorProg
import Derived.Test.YtbhmkcjddpniiaaGreatDoorRows
import Derived.Test.YtbhmkcjddpniiaaGreatDoorTie
import Derived.WalkKit
import Derived.WalkLawsBesides
import Derived.WalkSpells

namespace Go.Proofs.YtbhmkcjddpniiaaGreatDoor
open Go.ChangeShapes Go.WideShapes Go.ChangeAt Go.RowKit
theorem versionsOthers_door (os : Os) (args : Array Value) : laidMetH Tryz.prog Rows.versionsOthersRow.laid ((World.doorLaid Tryz.prog 400 os).forCall (fun _ _ => 0) ⟨#[],args,[]⟩).memory :=
 laidMetH_of_parts3 (fuel := 8) (laidMet_of_run' 8 (by kernel_rfl) (by kernel_rfl)) (by kernel_rfl) (by kernel_rfl)
set_option maxRecDepth 100000 in
theorem versionsOthers_lifted (os : Os) (started : os.Started) (H : Type) (enc : TypeId × Value → H) :
  ReturnsInHanded {} Tryz.checked os 9 .any (fun w args => (Rows.versionsOthersSpec.pre enc Tryz.prog Tryz.f9 [] false w args ∧ laidMetH Tryz.prog Rows.versionsOthersRow.laid w) ∧ sizedMet enc Tryz.prog Tryz.f9 (OpenSpec.ofChange Rows.versionsOthersSpec) false w args) (Rows.versionsOthersSpec.post enc Tryz.prog Tryz.f9 false true false false) := by
 refine law_liftedT started (by kernel_rfl) Tryz.func9 rfl (by kernel_rfl) ?_ ?_ (ChangeSpec.witness_shaped (enc := enc) (C := Tryz.checked) (os := os) (X := fun w _ => laidMetH Tryz.prog Rows.versionsOthersRow.laid w) false (World.doorLaid Tryz.prog 400 os) #[.slice none 0 0,.agg #[.int .i64 0,.string ⟨#[]⟩,.int .i64 0,.int .i64 0,.int .i64 0,.int .i64 0,.slice none 0 0,.int .i64 0,.int .i64 0,.int .i64 0,.int .i64 0,.int .i64 0,.slice none 0 0,.slice none 0 0]] 8 rfl (World.shaped_of_RefB (by kernel_rfl) (by kernel_rfl)) (by kernel_rfl) (by kernel_rfl) (by kernel_rfl) (versionsOthers_door os _)) ?_
 ·rw [Tryz.params9]
  intro t ht
  simp only [List.mem_cons,List.not_mem_nil,or_false] at ht
  rcases ht with rfl | rfl <;> exact ⟨by kernel_rfl,of_decide_eq_true (by kernel_rfl)⟩
 ·intro ds hds
  match ds,hds with
  | [d0,d1],_ => exact ⟨rfl,rfl,rfl⟩
 ·intro W base args ds ps hval hA hlaid
  rw [Tryz.params9] at hA hval
  obtain ⟨v0,vs0,d0,ds0,p0,q0,hargs,rfl,rfl,h0,r0⟩ := trodAll_cons hA
  obtain ⟨v1,vs1,d1,ds1,p1,q1,rfl,rfl,rfl,h1,r1⟩ := trodAll_cons r0
  obtain ⟨rfl,rfl,rfl⟩ := trodAll_nil r1
  obtain rfl : args = #[v0,v1] := by cases args;simp_all
  obtain ⟨a0,n0,c0,rfl⟩ := okWide_slice Tryz.underlying63 (hval 0 63 v0 rfl rfl)
  obtain ⟨fuel0,hf0⟩ := h0
  obtain ⟨x0,hx0⟩ := acts_of_trod hf0
  obtain ⟨cs1,rfl,hcs1⟩ := okWide_struct Tryz.underlying71 (hval 1 71 v1 rfl rfl)
  rw [show Tryz.prog.cellsOf 71 = 14 from by kernel_rfl] at hcs1
  obtain ⟨fuel1,hf1⟩ := h1
  obtain ⟨x1,he1,hx1,hn1⟩ := act_of_trod (by simpa [Value.cells] using hcs1) hf1
  have hv1 : Value.agg cs1 = x1.val := by simpa [Value.cells] using he1
  rw [hv1]
  exact lawOthers _ x0 x1 W hx0 hx1 hn1 (tab_of_laid hlaid)
theorem versionsOthers_row : Rows.VersionsOthersSaid :=
 OpenClaim.holds_of_wide 9 Tryz.f9 rfl rfl rfl rfl rfl rfl rfl ⟨rfl,rfl,rfl,rfl,rfl⟩ rfl rfl rfl rfl rfl (by kernel_rfl) Tryz.func9 (by kernel_rfl)
  (of_decide_eq_true (by kernel_rfl)) (by unfold Func.isWrapper;first | (rw [if_pos (by decide +kernel)];kernel_rfl) | (rw [if_neg (by decide +kernel)];exact ⟨rfl,rfl⟩))
  (fun os started H enc _ => versionsOthers_lifted os started H enc)
theorem versionsOthers_holds : Rows.VersionsOthersCardSaid :=
 Claim7.holds_tied_plain_at .later [] [.data,.data,.data] true Rows.versionsOthersCard.stood.harness true
  versionsOthers_row (fun _ h => by cases h) (by kernel_rfl) (fun _ h => by cases h) versionsOthers_row_tie rfl ⟨rfl,rfl⟩ (by kernel_rfl) rfl
  (fun f fn hf hfn => by
   obtain rfl : f = 9 := Option.some.inj ((show Tryz.prog.funcNamed "loftblock/loftblocklaw49.VersionsOthers" = some 9 by kernel_rfl).symm.trans hf) |>.symm
   obtain rfl : fn = Tryz.f9 := (Option.some.inj (Tryz.func9.symm.trans hfn)).symm
   exact ⟨by kernel_rfl,fun j t ht => by
    rw [Tryz.params9] at ht
    have h3 : t = 63 ∨ t = 71 := by
     rcases j with _ | _ | j
     ·exact .inl (by simpa using ht.symm)
     ·exact .inr (by simpa using ht.symm)
     ·simp at ht
    rcases h3 with rfl | rfl
    ·exact (show Tryz.prog.wantsStandIn 63 = false by kernel_rfl)
    ·exact (show Tryz.prog.wantsStandIn 71 = false by kernel_rfl)⟩)
  (by kernel_rfl)
#print axioms versionsOthers_holds
end Go.Proofs.YtbhmkcjddpniiaaGreatDoor
