/- For every input the law returns true, and its arguments read as they did. -/
import Derived.Below
import Derived.BigQuiet
import Derived.Carry
import Derived.ChangeSame
import Derived.Deep.AppendLies
import Derived.Deep.Cut
import Derived.Deep.Draws
import Derived.Deep.Fields
import Derived.Deep.LoopGhost
import Derived.Deep.MidRow
import Derived.Deep.QuietTactic
import Derived.Deep.RegionHeld3
import Derived.Deep.RegionLaw
import Derived.Deep.Slices
import Derived.IntWalk
import Derived.LaidMore
import Derived.LaidSub
import Derived.Laws.Bits64b
import Derived.Laws.Concat
import Derived.Laws.EntriesVeiled
import Derived.Lib.AppendIntMem
import Derived.Lib.Hide
import Derived.Lib.ItoaLen
import Derived.Lib.ItoaMem
import Derived.Lib.Join
import Derived.Lib.SliceRun
import Derived.Lib.SmallJoins
import Derived.LoopIn
import Derived.LoopNIn
import Derived.MakeChecks
import Derived.Maps.AppendAt
import Derived.Maps.Own
import Derived.Maps.OwnOps
import Derived.Maps.OwnSet
import Derived.Maps.Views
import Derived.OpenShut
import Derived.Outline
import Derived.OwnWalkIn
import Derived.PlainAid
import Derived.ProofKit
import Derived.RangeFuncBox
import Derived.RangeFuncLeaves
import Derived.Shelf.Abstract
import Derived.Shelf.Bits.Mul64
import Derived.Shelf.Strconv.Itoa3
import Derived.Shelf.Strings.Count
import Derived.Shelf.Strings.OnBuilder
import Derived.Shelf.Strings.Prefix
import Derived.SliceStrings
import Derived.StillTail
import Derived.StillTailTactics
import Derived.Stop.Joined
import Derived.TacticsInMore
import Derived.Test.YtbhmkcjddpniiaaGreatDoorC1
import Derived.Test.YtbhmkcjddpniiaaGreatDoorC2
import Derived.Test.YtbhmkcjddpniiaaGreatDoorC3
import Derived.Test.YtbhmkcjddpniiaaGreatDoorC4
import Derived.Test.YtbhmkcjddpniiaaGreatDoorC5
import Derived.Test.YtbhmkcjddpniiaaGreatDoorC6
import Derived.Test.YtbhmkcjddpniiaaGreatDoorC7
import Derived.Test.YtbhmkcjddpniiaaGreatDoorCards
import Derived.Test.YtbhmkcjddpniiaaGreatDoorD1
import Derived.Test.YtbhmkcjddpniiaaGreatDoorD2
import Derived.Test.YtbhmkcjddpniiaaGreatDoorD3
import Derived.Test.YtbhmkcjddpniiaaGreatDoorD4
import Derived.Test.YtbhmkcjddpniiaaGreatDoorD5
import Derived.Test.YtbhmkcjddpniiaaGreatDoorD6
import Derived.Test.YtbhmkcjddpniiaaGreatDoorD9
import Derived.Test.YtbhmkcjddpniiaaGreatDoorG1
import Derived.Test.YtbhmkcjddpniiaaGreatDoorI1
import Derived.Test.YtbhmkcjddpniiaaGreatDoorI10
import Derived.Test.YtbhmkcjddpniiaaGreatDoorI11
import Derived.Test.YtbhmkcjddpniiaaGreatDoorI12
import Derived.Test.YtbhmkcjddpniiaaGreatDoorI14
import Derived.Test.YtbhmkcjddpniiaaGreatDoorI2
import Derived.Test.YtbhmkcjddpniiaaGreatDoorI3
import Derived.Test.YtbhmkcjddpniiaaGreatDoorI5
import Derived.Test.YtbhmkcjddpniiaaGreatDoorI6
import Derived.Test.YtbhmkcjddpniiaaGreatDoorI7
import Derived.Test.YtbhmkcjddpniiaaGreatDoorI8
import Derived.Test.YtbhmkcjddpniiaaGreatDoorI9
import Derived.Test.YtbhmkcjddpniiaaGreatDoorProg
import Derived.Test.YtbhmkcjddpniiaaGreatDoorRows
import Derived.Test.YtbhmkcjddpniiaaGreatDoorTie
import Derived.WalkKit
import Derived.WalkLawsBesides
import Derived.WalkSpells

namespace Go.Proofs.YtbhmkcjddpniiaaGreatDoor
open Go.ChangeShapes Go.WideShapes Go.ChangeAt Go.RowKit
theorem versionsApart_door (os : Os) (args : Array Value) : laidMetH Tryz.prog Rows.versionsApartRow.laid ((World.doorLaid Tryz.prog 400 os).forCall (fun _ _ => 0) ⟨#[],args,[]⟩).memory :=
 laidMetH_of_parts3 (fuel := 8) (laidMet_of_run' 8 (by kernel_rfl) (by kernel_rfl)) (by kernel_rfl) (by kernel_rfl)
set_option maxRecDepth 100000 in
theorem versionsApart_lifted (os : Os) (started : os.Started) (H : Type) (enc : TypeId × Value → H) :
  ReturnsInHanded {} Tryz.checked os 4 .any (fun w args => (Rows.versionsApartSpec.pre enc Tryz.prog Tryz.f4 [] false w args ∧ laidMetH Tryz.prog Rows.versionsApartRow.laid w) ∧ sizedMet enc Tryz.prog Tryz.f4 (OpenSpec.ofChange Rows.versionsApartSpec) false w args) (Rows.versionsApartSpec.post enc Tryz.prog Tryz.f4 false true false false) := by
 refine law_liftedT started (by kernel_rfl) Tryz.func4 rfl (by kernel_rfl) ?_ ?_ (ChangeSpec.witness_shaped (enc := enc) (C := Tryz.checked) (os := os) (X := fun w _ => laidMetH Tryz.prog Rows.versionsApartRow.laid w) false (World.doorLaid Tryz.prog 400 os) #[.agg #[.string ⟨#[]⟩,.int .i64 0,.int .i64 0,.int .i64 0,.int .i64 0,.slice none 0 0,.int .i64 0,.int .i64 0,.int .i64 0,.int .i64 0,.int .i64 0,.slice none 0 0,.slice none 0 0]] 8 rfl (World.shaped_of_RefB (by kernel_rfl) (by kernel_rfl)) (by kernel_rfl) (by kernel_rfl) (by kernel_rfl) (versionsApart_door os _)) ?_
 ·rw [Tryz.params4]
  intro t ht
  simp only [List.mem_cons,List.not_mem_nil,or_false] at ht
  subst ht
  exact ⟨by kernel_rfl,of_decide_eq_true (by kernel_rfl)⟩
 ·intro ds hds
  match ds,hds with
  | [d0],_ => exact ⟨rfl,rfl,rfl⟩
 ·intro W base args ds ps hval hA hlaid
  rw [Tryz.params4] at hA hval
  obtain ⟨v0,vs0,d0,ds0,p0,q0,hargs,rfl,rfl,h0,r0⟩ := trodAll_cons hA
  obtain ⟨rfl,rfl,rfl⟩ := trodAll_nil r0
  obtain rfl : args = #[v0] := by cases args;simp_all
  obtain ⟨cs0,rfl,hcs0⟩ := okWide_struct Tryz.underlying26 (hval 0 26 v0 rfl rfl)
  rw [show Tryz.prog.cellsOf 26 = 13 from by kernel_rfl] at hcs0
  obtain ⟨fuel0,hf0⟩ := h0
  obtain ⟨x0,hx0,hn0⟩ := set_of_trod (by simpa [Value.cells] using hcs0) hf0
  exact lawApart _ x0 W (by simpa [Value.cells] using hx0) hn0 (tab_of_laid hlaid)
theorem versionsApart_row : Rows.VersionsApartSaid :=
 OpenClaim.holds_of_wide 4 Tryz.f4 rfl rfl rfl rfl rfl rfl rfl ⟨rfl,rfl,rfl,rfl,rfl⟩ rfl rfl rfl rfl rfl (by kernel_rfl) Tryz.func4 (by kernel_rfl)
  (of_decide_eq_true (by kernel_rfl)) (by unfold Func.isWrapper;first | (rw [if_pos (by decide +kernel)];kernel_rfl) | (rw [if_neg (by decide +kernel)];exact ⟨rfl,rfl⟩))
  (fun os started H enc _ => versionsApart_lifted os started H enc)
theorem versionsApart_holds : Rows.VersionsApartCardSaid :=
 Claim7.holds_tied_plain_at .later [] [.data,.data,.data] true Rows.versionsApartCard.stood.harness true
  versionsApart_row (fun _ h => by cases h) (by kernel_rfl) (fun _ h => by cases h) versionsApart_row_tie rfl ⟨rfl,rfl⟩ (by kernel_rfl) rfl
  (fun f fn hf hfn => by
   obtain rfl : f = 4 := Option.some.inj ((show Tryz.prog.funcNamed "loftblock/loftblocklaw49.VersionsApart" = some 4 by kernel_rfl).symm.trans hf) |>.symm
   obtain rfl : fn = Tryz.f4 := (Option.some.inj (Tryz.func4.symm.trans hfn)).symm
   exact ⟨by kernel_rfl,fun j t ht => by
    rw [Tryz.params4] at ht
    have h3 : t = 26 := by
     rcases j with _ | j
     ·simpa using ht.symm
     ·simp at ht
    subst h3
    exact (show Tryz.prog.wantsStandIn 26 = false by kernel_rfl)⟩)
  (by kernel_rfl)
#print axioms versionsApart_holds
end Go.Proofs.YtbhmkcjddpniiaaGreatDoor
