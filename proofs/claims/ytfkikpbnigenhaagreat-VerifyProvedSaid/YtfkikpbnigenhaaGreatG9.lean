/- Parts of the proof, laid into one text: RefKeeps. -/
import Derived.BigQuiet
import Derived.Deep.AppendLies
import Derived.Deep.Draws
import Derived.Deep.LoopGhost
import Derived.Deep.QuietTactic
import Derived.Deep.RegionHeld3
import Derived.Deep.RegionLaw
import Derived.IntWalk
import Derived.Laws.CopyOwn
import Derived.Laws.EntriesVeiled
import Derived.Lib.Hide
import Derived.Maps.AppendAt
import Derived.Maps.Own
import Derived.Maps.OwnOps
import Derived.Maps.OwnSet
import Derived.Maps.Views
import Derived.PlainAid
import Derived.Shelf.Abstract
import Derived.Shelf.Sort.Plain
import Derived.Sort.OwnSortedInts
import Derived.StillTailTactics
import Derived.Test.YtfkikpbnigenhaaGreatC1
import Derived.Test.YtfkikpbnigenhaaGreatG1
import Derived.Test.YtfkikpbnigenhaaGreatG2
import Derived.Test.YtfkikpbnigenhaaGreatG4
import Derived.Test.YtfkikpbnigenhaaGreatG6
import Derived.Test.YtfkikpbnigenhaaGreatG8
import Derived.Test.YtfkikpbnigenhaaGreatProg
import Derived.WalkKit
import Derived.WalkLawsBesides
import Derived.WalkSpells

namespace Go.Proofs.YtfkikpbnigenhaaGreat
open Go.RowKit Go.Shelf
def keepsB (l : List Task) (c p : Int) (s : List Int) : Bool := (List.range l.length).all (fun i => !(rowAt l i).any (lateB l s i)) && (List.range l.length).all (fun i => fitsB l c p s (atI s i))
theorem keeps_check {l : List Task} {c p : Int} {s : List Int} (hlen : s.length = l.length) : checkB l c p s = keepsB l c p s := by
 unfold checkB keepsB
 rw [Bool.eq_iff_iff]
 simp only [Bool.and_eq_true,List.all_eq_true,List.mem_range]
 constructor
 ·intro h
  refine ⟨fun i hi => ?_,fun i hi => ?_⟩
  ·have := h i hi
   unfold stepOkB at this
   rw [Bool.and_eq_true] at this
   exact this.2
  ·have := h i hi
   unfold stepOkB wholeB at this
   rw [Bool.and_eq_true,Bool.and_eq_true] at this
   exact this.1.1
 ·rintro ⟨h1,h2⟩ i hi
  unfold stepOkB wholeB
  rw [Bool.and_eq_true,Bool.and_eq_true]
  refine ⟨⟨h2 i hi,?_⟩,h1 i hi⟩
  rw [Bool.not_eq_true',List.any_eq_false]
  intro x hx
  obtain ⟨k,hk,rfl⟩ := List.mem_iff_getElem.1 hx
  have := h2 k (by omega)
  rw [atI_get hk] at this
  unfold badB
  rw [this]
  simp
end Go.Proofs.YtfkikpbnigenhaaGreat
