/- Parts of the proof, laid into one text: StGet. -/
import Derived.BigQuiet
import Derived.Deep.AppendLies
import Derived.Deep.Cut
import Derived.Deep.Draws
import Derived.Deep.LoopGhost
import Derived.Deep.MidRow
import Derived.Deep.QuietTactic
import Derived.Deep.RegionHeld3
import Derived.Deep.RegionLaw
import Derived.IntWalk
import Derived.Laws.Bits64b
import Derived.Laws.Concat
import Derived.Laws.EntriesVeiled
import Derived.Lib.AppendIntMem
import Derived.Lib.Hide
import Derived.Lib.ItoaLen
import Derived.Lib.ItoaMem
import Derived.Lib.Join
import Derived.Lib.SmallJoins
import Derived.LoopIn
import Derived.LoopNIn
import Derived.Maps.AppendAt
import Derived.Maps.Own
import Derived.Maps.OwnOps
import Derived.Maps.OwnSet
import Derived.Maps.Views
import Derived.Outline
import Derived.OwnWalkIn
import Derived.PlainAid
import Derived.RangeFuncBox
import Derived.RangeFuncLeaves
import Derived.Shelf.Abstract
import Derived.Shelf.Bits.Mul64
import Derived.Shelf.Strconv.Itoa3
import Derived.Shelf.Strings.Count
import Derived.Shelf.Strings.OnBuilder
import Derived.Shelf.Strings.Prefix
import Derived.StillTail
import Derived.StillTailTactics
import Derived.TacticsInMore
import Derived.Test.YtbhmkcjddpniiaaGreatDoorProg
import Derived.Test.YtbhmkcjddpniiaaGreatDoorXC1
import Derived.Test.YtbhmkcjddpniiaaGreatDoorXC2
import Derived.Test.YtbhmkcjddpniiaaGreatDoorXC3
import Derived.Test.YtbhmkcjddpniiaaGreatDoorXC4
import Derived.Test.YtbhmkcjddpniiaaGreatDoorXC5
import Derived.Test.YtbhmkcjddpniiaaGreatDoorXC6
import Derived.Test.YtbhmkcjddpniiaaGreatDoorXC7
import Derived.Test.YtbhmkcjddpniiaaGreatDoorXD1
import Derived.Test.YtbhmkcjddpniiaaGreatDoorXD2
import Derived.Test.YtbhmkcjddpniiaaGreatDoorXD3
import Derived.Test.YtbhmkcjddpniiaaGreatDoorXD4
import Derived.Test.YtbhmkcjddpniiaaGreatDoorXD5
import Derived.Test.YtbhmkcjddpniiaaGreatDoorXD9
import Derived.Test.YtbhmkcjddpniiaaGreatDoorXG1
import Derived.Test.YtbhmkcjddpniiaaGreatDoorXI1
import Derived.Test.YtbhmkcjddpniiaaGreatDoorXI3
import Derived.WalkKit
import Derived.WalkLawsBesides
import Derived.WalkSpells

namespace Go.Proofs.YtbhmkcjddpniiaaGreatDoor
open Go.RowKit Go.Shelf
def OwnC (w : World) (B : Nat) (c : SetC) : Prop :=
 w.ownsRow B 3 1 (.slice c.al c.s.lines.length c.cl) c.s.lines.length (c.s.lines.map (Value.int .i64)) ∧ w.ownsRow B 47 7 (.slice c.ai c.s.items.length c.ci) c.s.items.length (c.s.items.flatMap ItemT.cells) ∧
  w.ownsRow B 49 3 (.slice c.ab c.s.bricks.length c.cb) c.s.bricks.length (c.s.bricks.flatMap BrickT.cells)
theorem OwnC.set {w : World} {B : Nat} {c : SetC} (h : OwnC w B c) : SetAt w w.heap.size c.val c.s := ⟨_,_,_,_,_,_,rfl,Flat.of_own h.1,Flat.of_own h.2.1,Flat.of_own h.2.2⟩
def lensOk (s : SetT) : Prop := s.lines.length ≤ 1000 ∧ s.items.length ≤ 1000 ∧ s.bricks.length ≤ 1000
end Go.Proofs.YtbhmkcjddpniiaaGreatDoor
