/- For every input the law returns true, and its arguments read as they did. -/
import Derived.Below
import Derived.BigQuiet
import Derived.Carry
import Derived.ChangeSame
import Derived.Deep.AppendLies
import Derived.Deep.Draws
import Derived.Deep.Fields
import Derived.Deep.LoopGhost
import Derived.Deep.QuietTactic
import Derived.Deep.RegionHeld3
import Derived.Deep.RegionLaw
import Derived.Deep.Slices
import Derived.IntWalk
import Derived.Laws.Bits64b
import Derived.Laws.BitsLemmas
import Derived.Laws.CopyOwn
import Derived.Laws.EntriesVeiled
import Derived.Lib.Hide
import Derived.LoopIn
import Derived.LoopNIn
import Derived.Maps.AppendAt
import Derived.Maps.Own
import Derived.Maps.OwnOps
import Derived.Maps.OwnSet
import Derived.Maps.Views
import Derived.Outline
import Derived.OwnWalkIn
import Derived.PlainAid
import Derived.ProofKit
import Derived.RangeFuncBox
import Derived.RangeFuncLeaves
import Derived.Shelf.Abstract
import Derived.Shelf.Sort.Plain
import Derived.SliceStrings
import Derived.Sort.OwnSortedInts
import Derived.StillTail
import Derived.StillTailTactics
import Derived.TacticsInMore
import Derived.Test.YtfkikpbnigenhaaGreatC1
import Derived.Test.YtfkikpbnigenhaaGreatC2
import Derived.Test.YtfkikpbnigenhaaGreatC3
import Derived.Test.YtfkikpbnigenhaaGreatC4
import Derived.Test.YtfkikpbnigenhaaGreatC5
import Derived.Test.YtfkikpbnigenhaaGreatC6
import Derived.Test.YtfkikpbnigenhaaGreatC7
import Derived.Test.YtfkikpbnigenhaaGreatD1
import Derived.Test.YtfkikpbnigenhaaGreatD2
import Derived.Test.YtfkikpbnigenhaaGreatD3
import Derived.Test.YtfkikpbnigenhaaGreatE1
import Derived.Test.YtfkikpbnigenhaaGreatE2
import Derived.Test.YtfkikpbnigenhaaGreatE3
import Derived.Test.YtfkikpbnigenhaaGreatE4
import Derived.Test.YtfkikpbnigenhaaGreatE5
import Derived.Test.YtfkikpbnigenhaaGreatE6
import Derived.Test.YtfkikpbnigenhaaGreatE7
import Derived.Test.YtfkikpbnigenhaaGreatG1
import Derived.Test.YtfkikpbnigenhaaGreatG11
import Derived.Test.YtfkikpbnigenhaaGreatG2
import Derived.Test.YtfkikpbnigenhaaGreatG3
import Derived.Test.YtfkikpbnigenhaaGreatG4
import Derived.Test.YtfkikpbnigenhaaGreatG6
import Derived.Test.YtfkikpbnigenhaaGreatG8
import Derived.Test.YtfkikpbnigenhaaGreatG9
import Derived.Test.YtfkikpbnigenhaaGreatProg
import Derived.Test.YtfkikpbnigenhaaGreatRows
import Derived.WalkKit
import Derived.WalkLawsBesides
import Derived.WalkMore
import Derived.WalkSpells

namespace Go.Proofs.YtfkikpbnigenhaaGreat
open Go.ChangeShapes Go.WideShapes Go.ChangeAt Go.RowKit
set_option maxRecDepth 100000 in
theorem verifyProved_lifted (os : Os) (started : os.Started) (H : Type) (enc : TypeId × Value → H) :
  ReturnsInHanded {} Tryz.checked os 4 .any (Rows.verifyProvedSpec.pre6 enc Tryz.prog Tryz.f4 Rows.verifyProvedRow.domain false) (Rows.verifyProvedSpec.post enc Tryz.prog Tryz.f4 false true false false) := by
 refine law_lifted started (by kernel_rfl) Tryz.func4 rfl (by kernel_rfl) ?_ ?_ (ChangeSpec.witness6 (enc := enc) (C := Tryz.checked) false ⟨#[],#[.agg #[.string ⟨#[]⟩,.int .i64 0,.int .i64 0,.int .i64 0,.int .i64 0,.slice none 0 0,.int .i64 0,.int .i64 0,.int .i64 0,.int .i64 0,.int .i64 0,.slice none 0 0,.slice none 0 0],.slice none 0 0,.slice none 0 0,.slice none 0 0,.slice none 0 0,.int .i64 0,.int .i64 0,.slice none 0 0,.int .i64 0],[]⟩ 8 (by kernel_rfl) (by kernel_rfl) (by kernel_rfl) (by kernel_rfl)) ?_
 ·rw [Tryz.params4]
  intro t ht
  simp only [List.mem_cons,List.not_mem_nil,or_false] at ht
  rcases ht with rfl | rfl | rfl | rfl | rfl | rfl | rfl | rfl | rfl <;> exact ⟨by kernel_rfl,of_decide_eq_true (by kernel_rfl)⟩
 ·intro ds hds
  match ds,hds with
  | [d0,d1,d2,d3,d4,d5,d6,d7,d8],_ => exact ⟨rfl,rfl,rfl⟩
 ·intro W base args ds ps hval hA
  rw [Tryz.params4] at hA hval
  obtain ⟨v0,vs0,d0,ds0,p0,q0,hargs,rfl,rfl,h0,r0⟩ := trodAll_cons hA
  obtain ⟨v1,vs1,d1,ds1,p1,q1,rfl,rfl,rfl,h1,r1⟩ := trodAll_cons r0
  obtain ⟨v2,vs2,d2,ds2,p2,q2,rfl,rfl,rfl,h2,r2⟩ := trodAll_cons r1
  obtain ⟨v3,vs3,d3,ds3,p3,q3,rfl,rfl,rfl,h3,r3⟩ := trodAll_cons r2
  obtain ⟨v4,vs4,d4,ds4,p4,q4,rfl,rfl,rfl,h4,r4⟩ := trodAll_cons r3
  obtain ⟨v5,vs5,d5,ds5,p5,q5,rfl,rfl,rfl,h5,r5⟩ := trodAll_cons r4
  obtain ⟨v6,vs6,d6,ds6,p6,q6,rfl,rfl,rfl,h6,r6⟩ := trodAll_cons r5
  obtain ⟨v7,vs7,d7,ds7,p7,q7,rfl,rfl,rfl,h7,r7⟩ := trodAll_cons r6
  obtain ⟨v8,vs8,d8,ds8,p8,q8,rfl,rfl,rfl,h8,r8⟩ := trodAll_cons r7
  obtain ⟨rfl,rfl,rfl⟩ := trodAll_nil r8
  obtain rfl : args = #[v0,v1,v2,v3,v4,v5,v6,v7,v8] := by cases args;simp_all
  obtain ⟨cs0,rfl,hcs0⟩ := okWide_struct Tryz.underlying26 (hval 0 26 v0 rfl rfl)
  rw [show Tryz.prog.cellsOf 26 = 13 from by kernel_rfl] at hcs0
  obtain ⟨fuel0,hf0⟩ := h0
  obtain ⟨x0,hx0,hn0⟩ := set_of_trod (by simpa [Value.cells] using hcs0) hf0
  obtain ⟨a1,n1,c1,rfl⟩ := okWide_slice Tryz.underlying27 (hval 1 27 v1 rfl rfl)
  obtain ⟨fuel1,hf1⟩ := h1
  obtain ⟨x1,hx1,hw1⟩ := jobs_of_trod hf1
  obtain ⟨a2,n2,c2,rfl⟩ := okWide_slice Tryz.underlying22 (hval 2 22 v2 rfl rfl)
  obtain ⟨fuel2,hf2⟩ := h2
  obtain ⟨x2,hx2,hw2⟩ := ints_of_trod hf2
  obtain ⟨a3,n3,c3,rfl⟩ := okWide_slice Tryz.underlying22 (hval 3 22 v3 rfl rfl)
  obtain ⟨fuel3,hf3⟩ := h3
  obtain ⟨x3,hx3,hw3⟩ := ints_of_trod hf3
  obtain ⟨a4,n4,c4,rfl⟩ := okWide_slice Tryz.underlying37 (hval 4 37 v4 rfl rfl)
  obtain ⟨fuel4,hf4⟩ := h4
  obtain ⟨x4,hx4⟩ := tasks_of_trod hf4
  obtain ⟨x5,rfl,-,-,wf5⟩ := open_int Tryz.underlying3 (hval 5 3 v5 rfl rfl) h5
  clear wf5
  obtain ⟨x6,rfl,-,-,wf6⟩ := open_int Tryz.underlying3 (hval 6 3 v6 rfl rfl) h6
  clear wf6
  obtain ⟨a7,n7,c7,rfl⟩ := okWide_slice Tryz.underlying22 (hval 7 22 v7 rfl rfl)
  obtain ⟨fuel7,hf7⟩ := h7
  obtain ⟨x7,hx7,hw7⟩ := ints_of_trod hf7
  obtain ⟨x8,rfl,-,-,wf8⟩ := open_int Tryz.underlying3 (hval 8 3 v8 rfl rfl) h8
  clear wf8
  exact lawVerifyProved _ _ _ _ _ _ x0 x1 x2 x3 x4 x5 x6 x7 x8 W hx0 hn0 hx1 hw1 hx2 hx3 hw2 hx4 hx7 hw7
theorem verifyProved_holds : Rows.VerifyProvedSaid :=
 OpenClaim.holds_of_wide 4 Tryz.f4 rfl rfl rfl rfl rfl rfl rfl ⟨rfl,rfl,rfl,rfl,rfl⟩ rfl rfl rfl rfl rfl (by kernel_rfl) Tryz.func4 (by kernel_rfl)
  (of_decide_eq_true (by kernel_rfl)) (by unfold Func.isWrapper;first | (rw [if_pos (by decide +kernel)];kernel_rfl) | (rw [if_neg (by decide +kernel)];exact ⟨rfl,rfl⟩))
  (fun os started H enc _ => verifyProved_lifted os started H enc)
#print axioms verifyProved_holds
end Go.Proofs.YtfkikpbnigenhaaGreat
