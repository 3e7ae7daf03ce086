/- Parts of the proof, laid into one text: OpenAct1. -/
import Derived.Below
import Derived.BigQuiet
import Derived.ChangeSame
import Derived.Deep.AppendLies
import Derived.Deep.Cut
import Derived.Deep.Draws
import Derived.Deep.Fields
import Derived.Deep.LoopGhost
import Derived.Deep.MidRow
import Derived.Deep.QuietTactic
import Derived.Deep.RegionHeld3
import Derived.Deep.RegionLaw
import Derived.Deep.Slices
import Derived.IntWalk
import Derived.Laws.Bits64b
import Derived.Laws.Concat
import Derived.Laws.EntriesVeiled
import Derived.Lib.AppendIntMem
import Derived.Lib.Hide
import Derived.Lib.ItoaLen
import Derived.Lib.ItoaMem
import Derived.Lib.Join
import Derived.Lib.SliceRun
import Derived.Lib.SmallJoins
import Derived.LoopIn
import Derived.LoopNIn
import Derived.Maps.AppendAt
import Derived.Maps.Own
import Derived.Maps.OwnOps
import Derived.Maps.OwnSet
import Derived.Maps.Views
import Derived.Outline
import Derived.OwnWalkIn
import Derived.PlainAid
import Derived.RangeFuncBox
import Derived.RangeFuncLeaves
import Derived.Shelf.Abstract
import Derived.Shelf.Bits.Mul64
import Derived.Shelf.Strconv.Itoa3
import Derived.Shelf.Strings.Count
import Derived.Shelf.Strings.OnBuilder
import Derived.Shelf.Strings.Prefix
import Derived.SliceStrings
import Derived.StillTail
import Derived.StillTailTactics
import Derived.TacticsInMore
import Derived.Test.YtbhmkcjddpniiaaGreatDoorC1
import Derived.Test.YtbhmkcjddpniiaaGreatDoorC2
import Derived.Test.YtbhmkcjddpniiaaGreatDoorC3
import Derived.Test.YtbhmkcjddpniiaaGreatDoorC4
import Derived.Test.YtbhmkcjddpniiaaGreatDoorC5
import Derived.Test.YtbhmkcjddpniiaaGreatDoorC6
import Derived.Test.YtbhmkcjddpniiaaGreatDoorC7
import Derived.Test.YtbhmkcjddpniiaaGreatDoorD1
import Derived.Test.YtbhmkcjddpniiaaGreatDoorD2
import Derived.Test.YtbhmkcjddpniiaaGreatDoorD3
import Derived.Test.YtbhmkcjddpniiaaGreatDoorD4
import Derived.Test.YtbhmkcjddpniiaaGreatDoorD5
import Derived.Test.YtbhmkcjddpniiaaGreatDoorD6
import Derived.Test.YtbhmkcjddpniiaaGreatDoorD9
import Derived.Test.YtbhmkcjddpniiaaGreatDoorG1
import Derived.Test.YtbhmkcjddpniiaaGreatDoorI1
import Derived.Test.YtbhmkcjddpniiaaGreatDoorI10
import Derived.Test.YtbhmkcjddpniiaaGreatDoorI2
import Derived.Test.YtbhmkcjddpniiaaGreatDoorI3
import Derived.Test.YtbhmkcjddpniiaaGreatDoorI5
import Derived.Test.YtbhmkcjddpniiaaGreatDoorI6
import Derived.Test.YtbhmkcjddpniiaaGreatDoorI7
import Derived.Test.YtbhmkcjddpniiaaGreatDoorI8
import Derived.Test.YtbhmkcjddpniiaaGreatDoorI9
import Derived.Test.YtbhmkcjddpniiaaGreatDoorProg
import Derived.WalkKit
import Derived.WalkLawsBesides
import Derived.WalkSpells

namespace Go.Proofs.YtbhmkcjddpniiaaGreatDoor
open Go.RowKit Go.Shelf Go.ChangeShapes Go.WideShapes Go.Deep
section
variable {H : Type} {enc : TypeId × Value → H} {w : World} {base : Nat} {spare : Nat → Bool} {held : Bool}
theorem act_of_trod {fuel : Nat} {cs : List Value} {x : DataW H × List MemPlace} (hlen : cs.length = 14) (h : DataW.trod enc Tryz.prog w base spare held fuel 71 cs = some x) :
  ∃ t : ActC,Value.agg cs.toArray = t.val ∧ SetAt w w.heap.size t.c.val t.c.s ∧ SetNames t.c.s := by
 obtain ⟨ys,n',hn',hy,_,hyl,hf⟩ := DataW.trod_struct Tryz.underlying71 h
 obtain ⟨c0,cr,rfl,hcr⟩ := list14 hlen
 obtain ⟨y0,y1,rfl⟩ := list2 hyl
 have g0 : DataW.trod enc Tryz.prog w base spare held n' 3 (List.take (Tryz.prog.cellsOf 3) (List.drop 0 (c0 :: cr))) = some y0 := hf 0 _ rfl
 have g1 : DataW.trod enc Tryz.prog w base spare held n' 26 (List.take (Tryz.prog.cellsOf 26) (List.drop 1 (c0 :: cr))) = some y1 := hf 1 _ rfl
 rw [show Tryz.prog.cellsOf 3 = 1 from by kernel_rfl] at g0
 rw [show Tryz.prog.cellsOf 26 = 13 from by kernel_rfl] at g1
 obtain ⟨f0,rfl,-⟩ := int_of_trod (v := c0) g0
 have e1 : List.take 13 (List.drop 1 (Value.int .i64 f0 :: cr)) = cr := by
  rw [List.drop_one,List.tail_cons,← hcr,List.take_length]
 rw [e1] at g1
 obtain ⟨s,hs,hnm⟩ := set_of_trod hcr g1
 have hs' := hs
 obtain ⟨al,cl,ai,ci,ab,cb,e,_⟩ := hs
 have ecr : cr = (SetC.mk s al cl ai ci ab cb).cells := by
  have e2 : cr.toArray = (SetC.mk s al cl ai ci ab cb).cells.toArray := Value.agg.inj e
  simpa using congrArg Array.toList e2
 have hsv : SetAt w w.heap.size (setVal s al cl ai ci ab cb) s := e ▸ hs'
 exact ⟨⟨f0,s,al,cl,ai,ci,ab,cb⟩,by rw [ecr];rfl,hsv,hnm⟩
end
end Go.Proofs.YtbhmkcjddpniiaaGreatDoor
